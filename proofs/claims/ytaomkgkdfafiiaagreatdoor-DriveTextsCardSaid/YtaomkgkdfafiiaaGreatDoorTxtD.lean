/- Part of a proof. No condition. (Part 4.) -/
import Derived.Test.YtaomkgkdfafiiaaGreatDoorProg
import Derived.KernelRfl
import Derived.Laws.CopyRow
import Derived.DataReads
import Derived.Lib.LaidTab
import Derived.Lib.ItoaNum
import Derived.Test.YtaomkgkdfafiiaaGreatDoorTxtC
set_option linter.unusedVariables false
set_option linter.unusedSimpArgs false
namespace Go.Proofs.YtaomkgkdfafiiaaGreatDoor
open Go Go.AM
def eT:List (Nat×TI):=[(1,⟨.func #[] #[] false,1,8,.nilFunc,[.nilf]⟩),
 (2,⟨.int .i64,1,8,.int .i64 0,[.d (.int .i64 0)]⟩),
 (3,⟨.int .i64,1,8,.int .i64 0,[.d (.int .i64 0)]⟩),
 (4,⟨.bool,1,1,.bool false,[.d (.bool false)]⟩),
 (5,⟨.int .u8,1,1,.int .u8 0,[.d (.int .u8 0)]⟩),
 (6,⟨.int .u8,1,1,.int .u8 0,[.d (.int .u8 0)]⟩),
 (7,⟨.struct #[⟨"x",2,0,false, "", "runtime",0⟩,⟨"y",3,1,false, "", "runtime",8⟩,⟨"signed",4,2,false, "", "runtime",16⟩,⟨"code",6,3,false, "", "runtime",17⟩],4,24,.agg #[.int .i64 0,.int .i64 0,.bool false,.int .u8 0],[.d (.int .i64 0),.d (.int .i64 0),.d (.bool false),.d (.int .u8 0)]⟩),
 (8,⟨.struct #[⟨"x",2,0,false, "", "runtime",0⟩,⟨"y",3,1,false, "", "runtime",8⟩,⟨"signed",4,2,false, "", "runtime",16⟩,⟨"code",6,3,false, "", "runtime",17⟩],4,24,.agg #[.int .i64 0,.int .i64 0,.bool false,.int .u8 0],[.d (.int .i64 0),.d (.int .i64 0),.d (.bool false),.d (.int .u8 0)]⟩),
 (9,⟨.string,1,16,.string ByteArray.empty,[.d (.str ByteArray.empty)]⟩),
 (10,⟨.string,1,16,.string ByteArray.empty,[.d (.str ByteArray.empty)]⟩),
 (11,⟨.string,1,16,.string ByteArray.empty,[.d (.str ByteArray.empty)]⟩),
 (12,⟨.int .u64,1,8,.int .u64 0,[.d (.int .u64 0)]⟩),
 (13,⟨.struct #[⟨"msg",9,0,false, "", "runtime",0⟩,⟨"addr",12,1,false, "", "runtime",16⟩],2,24,.agg #[.string ByteArray.empty,.int .u64 0],[.d (.str ByteArray.empty),.d (.int .u64 0)]⟩),
 (14,⟨.struct #[⟨"msg",9,0,false, "", "runtime",0⟩,⟨"addr",12,1,false, "", "runtime",16⟩],2,24,.agg #[.string ByteArray.empty,.int .u64 0],[.d (.str ByteArray.empty),.d (.int .u64 0)]⟩),
 (15,⟨.pointer 307,1,8,.pointer none,[.nilp]⟩)]
def eU:List (Nat×TI):=[(16,⟨.pointer 310,1,8,.pointer none,[.nilp]⟩),
 (17,⟨.pointer 317,1,8,.pointer none,[.nilp]⟩),
 (18,⟨.struct #[⟨"typ",17,0,false, "", "internal/runtime/maps",0⟩],1,8,.agg #[.pointer none],[.nilp]⟩),
 (19,⟨.struct #[⟨"typ",17,0,false, "", "internal/runtime/maps",0⟩],1,8,.agg #[.pointer none],[.nilp]⟩),
 (20,⟨.interface #[],1,16,.nilIface,[.un]⟩),
 (21,⟨.int .i32,1,4,.int .i32 0,[.d (.int .i32 0)]⟩),
 (22,⟨.pointer 35,1,8,.pointer none,[.nilp]⟩),
 (23,⟨.slice 73,1,24,.slice none 0 0,[.nils true 4]⟩),
 (24,⟨.slice 256,1,24,.slice none 0 0,[.nils true 16]⟩),
 (25,⟨.struct #[⟨"Funcs",23,0,false, "", "",0⟩,⟨"Main",3,1,false, "", "",24⟩,⟨"Types",24,2,false, "", "",32⟩],3,56,.agg #[.slice none 0 0,.int .i64 0,.slice none 0 0],[.nils true 4,.d (.int .i64 0),.nils true 16]⟩),
 (26,⟨.struct #[⟨"Funcs",23,0,false, "", "",0⟩,⟨"Main",3,1,false, "", "",24⟩,⟨"Types",24,2,false, "", "",32⟩],3,56,.agg #[.slice none 0 0,.int .i64 0,.slice none 0 0],[.nils true 4,.d (.int .i64 0),.nils true 16]⟩),
 (27,⟨.pointer 122,1,8,.pointer none,[.nilp]⟩),
 (28,⟨.pointer 192,1,8,.pointer none,[.nilp]⟩),
 (29,⟨.pointer 221,1,8,.pointer none,[.nilp]⟩),
 (30,⟨.pointer 239,1,8,.pointer none,[.nilp]⟩),
 (31,⟨.pointer 188,1,8,.pointer none,[.nilp]⟩)]
def eV:List (Nat×TI):=[(32,⟨.slice 61,1,24,.slice none 0 0,[.nils false 1]⟩),
 (33,⟨.slice 86,1,24,.slice none 0 0,[.nils true 4]⟩),
 (34,⟨.struct #[⟨"u",26,0,false, "", "weftway/machine",0⟩,⟨"heap",27,3,false, "", "weftway/machine",56⟩,⟨"counts",28,4,false, "", "weftway/machine",64⟩,⟨"locks",29,5,false, "", "weftway/machine",72⟩,⟨"queues",30,6,false, "", "weftway/machine",80⟩,⟨"table",31,7,false, "", "weftway/machine",88⟩,⟨"threads",32,8,false, "", "weftway/machine",96⟩,⟨"trace",33,9,false, "", "weftway/machine",120⟩,⟨"fault",5,10,false, "", "weftway/machine",144⟩,⟨"now",3,11,false, "", "weftway/machine",152⟩],12,160,.agg #[.slice none 0 0,.int .i64 0,.slice none 0 0,.pointer none,.pointer none,.pointer none,.pointer none,.pointer none,.slice none 0 0,.slice none 0 0,.int .u8 0,.int .i64 0],[.nils true 4,.d (.int .i64 0),.nils true 16,.nilp,.nilp,.nilp,.nilp,.nilp,.nils false 1,.nils true 4,.d (.int .u8 0),.d (.int .i64 0)]⟩),
 (35,⟨.struct #[⟨"u",26,0,false, "", "weftway/machine",0⟩,⟨"heap",27,3,false, "", "weftway/machine",56⟩,⟨"counts",28,4,false, "", "weftway/machine",64⟩,⟨"locks",29,5,false, "", "weftway/machine",72⟩,⟨"queues",30,6,false, "", "weftway/machine",80⟩,⟨"table",31,7,false, "", "weftway/machine",88⟩,⟨"threads",32,8,false, "", "weftway/machine",96⟩,⟨"trace",33,9,false, "", "weftway/machine",120⟩,⟨"fault",5,10,false, "", "weftway/machine",144⟩,⟨"now",3,11,false, "", "weftway/machine",152⟩],12,160,.agg #[.slice none 0 0,.int .i64 0,.slice none 0 0,.pointer none,.pointer none,.pointer none,.pointer none,.pointer none,.slice none 0 0,.slice none 0 0,.int .u8 0,.int .i64 0],[.nils true 4,.d (.int .i64 0),.nils true 16,.nilp,.nilp,.nilp,.nilp,.nilp,.nils false 1,.nils true 4,.d (.int .u8 0),.d (.int .i64 0)]⟩),
 (36,⟨.slice 22,1,24,.slice none 0 0,[.nils false 1]⟩),
 (38,⟨.func #[3] #[5,4] false,1,8,.nilFunc,[.nilf]⟩),
 (39,⟨.slice 42,1,24,.slice none 0 0,[.nils true 6]⟩),
 (40,⟨.slice 3,1,24,.slice none 0 0,[.nils false 1]⟩),
 (41,⟨.struct #[⟨"Kind",5,0,false, "", "",0⟩,⟨"Int",2,1,false, "", "",8⟩,⟨"Name",9,2,false, "", "",16⟩,⟨"Fields",39,3,false, "", "",32⟩,⟨"ID",3,4,false, "", "",56⟩,⟨"Path",40,5,false, "", "",64⟩],6,88,.agg #[.int .u8 0,.int .i64 0,.string ByteArray.empty,.slice none 0 0,.int .i64 0,.slice none 0 0],[.d (.int .u8 0),.d (.int .i64 0),.d (.str ByteArray.empty),.nils true 6,.d (.int .i64 0),.nils false 1]⟩),
 (42,⟨.struct #[⟨"Kind",5,0,false, "", "",0⟩,⟨"Int",2,1,false, "", "",8⟩,⟨"Name",9,2,false, "", "",16⟩,⟨"Fields",39,3,false, "", "",32⟩,⟨"ID",3,4,false, "", "",56⟩,⟨"Path",40,5,false, "", "",64⟩],6,88,.agg #[.int .u8 0,.int .i64 0,.string ByteArray.empty,.slice none 0 0,.int .i64 0,.slice none 0 0],[.d (.int .u8 0),.d (.int .i64 0),.d (.str ByteArray.empty),.nils true 6,.d (.int .i64 0),.nils false 1]⟩),
 (44,⟨.func #[] #[42,4] false,1,8,.nilFunc,[.nilf]⟩),
 (45,⟨.int .i64,1,8,.int .i64 0,[.d (.int .i64 0)]⟩),
 (46,⟨.func #[3] #[45] false,1,8,.nilFunc,[.nilf]⟩),
 (47,⟨.func #[] #[40] false,1,8,.nilFunc,[.nilf]⟩)]
def eW:List (Nat×TI):=[(48,⟨.func #[] #[33] false,1,8,.nilFunc,[.nilf]⟩),
 (49,⟨.func #[] #[3] false,1,8,.nilFunc,[.nilf]⟩),
 (50,⟨.func #[] #[5] false,1,8,.nilFunc,[.nilf]⟩),
 (51,⟨.func #[] #[4] false,1,8,.nilFunc,[.nilf]⟩),
 (52,⟨.func #[3] #[4] false,1,8,.nilFunc,[.nilf]⟩),
 (53,⟨.struct #[⟨"Kind",5,0,false, "", "",0⟩,⟨"Result",2,1,false, "", "",8⟩,⟨"Left",3,2,false, "", "",16⟩,⟨"Why",5,3,false, "", "",24⟩,⟨"Steps",3,4,false, "", "",32⟩],5,40,.agg #[.int .u8 0,.int .i64 0,.int .i64 0,.int .u8 0,.int .i64 0],[.d (.int .u8 0),.d (.int .i64 0),.d (.int .i64 0),.d (.int .u8 0),.d (.int .i64 0)]⟩),
 (54,⟨.struct #[⟨"Kind",5,0,false, "", "",0⟩,⟨"Result",2,1,false, "", "",8⟩,⟨"Left",3,2,false, "", "",16⟩,⟨"Why",5,3,false, "", "",24⟩,⟨"Steps",3,4,false, "", "",32⟩],5,40,.agg #[.int .u8 0,.int .i64 0,.int .i64 0,.int .u8 0,.int .i64 0],[.d (.int .u8 0),.d (.int .i64 0),.d (.int .i64 0),.d (.int .u8 0),.d (.int .i64 0)]⟩),
 (55,⟨.func #[3] #[40] false,1,8,.nilFunc,[.nilf]⟩),
 (56,⟨.func #[54] #[9] false,1,8,.nilFunc,[.nilf]⟩),
 (57,⟨.func #[54,3] #[4] false,1,8,.nilFunc,[.nilf]⟩),
 (58,⟨.slice 69,1,24,.slice none 0 0,[.nils false 1]⟩),
 (59,⟨.struct #[⟨"frames",58,0,false, "", "weftway/machine",0⟩,⟨"why",5,1,false, "", "weftway/machine",24⟩,⟨"ended",4,2,false, "", "weftway/machine",25⟩,⟨"result",42,3,false, "", "weftway/machine",32⟩],9,120,.agg #[.slice none 0 0,.int .u8 0,.bool false,.int .u8 0,.int .i64 0,.string ByteArray.empty,.slice none 0 0,.int .i64 0,.slice none 0 0],[.nils false 1,.d (.int .u8 0),.d (.bool false),.d (.int .u8 0),.d (.int .i64 0),.d (.str ByteArray.empty),.nils true 6,.d (.int .i64 0),.nils false 1]⟩),
 (60,⟨.struct #[⟨"frames",58,0,false, "", "weftway/machine",0⟩,⟨"why",5,1,false, "", "weftway/machine",24⟩,⟨"ended",4,2,false, "", "weftway/machine",25⟩,⟨"result",42,3,false, "", "weftway/machine",32⟩],9,120,.agg #[.slice none 0 0,.int .u8 0,.bool false,.int .u8 0,.int .i64 0,.string ByteArray.empty,.slice none 0 0,.int .i64 0,.slice none 0 0],[.nils false 1,.d (.int .u8 0),.d (.bool false),.d (.int .u8 0),.d (.int .i64 0),.d (.str ByteArray.empty),.nils true 6,.d (.int .i64 0),.nils false 1]⟩),
 (61,⟨.pointer 60,1,8,.pointer none,[.nilp]⟩),
 (62,⟨.func #[42] #[42] false,1,8,.nilFunc,[.nilf]⟩),
 (63,⟨.func #[40,3] #[4] false,1,8,.nilFunc,[.nilf]⟩)]
def eX:List (Nat×TI):=[(64,⟨.struct #[⟨"fault",5,0,false, "", "weftway/machine",0⟩],1,1,.agg #[.int .u8 0],[.d (.int .u8 0)]⟩),
 (65,⟨.struct #[⟨"fault",5,0,false, "", "weftway/machine",0⟩],1,1,.agg #[.int .u8 0],[.d (.int .u8 0)]⟩),
 (66,⟨.struct #[⟨"why",5,0,false, "", "weftway/machine",0⟩],1,1,.agg #[.int .u8 0],[.d (.int .u8 0)]⟩),
 (67,⟨.struct #[⟨"why",5,0,false, "", "weftway/machine",0⟩],1,1,.agg #[.int .u8 0],[.d (.int .u8 0)]⟩),
 (68,⟨.func #[61] #[] false,1,8,.nilFunc,[.nilf]⟩),
 (69,⟨.pointer 76,1,8,.pointer none,[.nilp]⟩),
 (70,⟨.func #[] #[69] false,1,8,.nilFunc,[.nilf]⟩),
 (71,⟨.slice 80,1,24,.slice none 0 0,[.nils true 9]⟩),
 (72,⟨.struct #[⟨"Name",9,0,false, "", "",0⟩,⟨"Params",3,1,false, "", "",16⟩,⟨"Slots",3,2,false, "", "",24⟩,⟨"Code",71,3,false, "", "",32⟩],4,56,.agg #[.string ByteArray.empty,.int .i64 0,.int .i64 0,.slice none 0 0],[.d (.str ByteArray.empty),.d (.int .i64 0),.d (.int .i64 0),.nils true 9]⟩),
 (73,⟨.struct #[⟨"Name",9,0,false, "", "",0⟩,⟨"Params",3,1,false, "", "",16⟩,⟨"Slots",3,2,false, "", "",24⟩,⟨"Code",71,3,false, "", "",32⟩],4,56,.agg #[.string ByteArray.empty,.int .i64 0,.int .i64 0,.slice none 0 0],[.d (.str ByteArray.empty),.d (.int .i64 0),.d (.int .i64 0),.nils true 9]⟩),
 (74,⟨.slice 115,1,24,.slice none 0 0,[.nils true 2]⟩),
 (75,⟨.struct #[⟨"fn",3,0,false, "", "weftway/machine",0⟩,⟨"next",3,1,false, "", "weftway/machine",8⟩,⟨"slots",40,2,false, "", "weftway/machine",16⟩,⟨"stack",39,3,false, "", "weftway/machine",40⟩,⟨"undo",74,4,false, "", "weftway/machine",64⟩],5,88,.agg #[.int .i64 0,.int .i64 0,.slice none 0 0,.slice none 0 0,.slice none 0 0],[.d (.int .i64 0),.d (.int .i64 0),.nils false 1,.nils true 6,.nils true 2]⟩),
 (76,⟨.struct #[⟨"fn",3,0,false, "", "weftway/machine",0⟩,⟨"next",3,1,false, "", "weftway/machine",8⟩,⟨"slots",40,2,false, "", "weftway/machine",16⟩,⟨"stack",39,3,false, "", "weftway/machine",40⟩,⟨"undo",74,4,false, "", "weftway/machine",64⟩],5,88,.agg #[.int .i64 0,.int .i64 0,.slice none 0 0,.slice none 0 0,.slice none 0 0],[.d (.int .i64 0),.d (.int .i64 0),.nils false 1,.nils true 6,.nils true 2]⟩),
 (77,⟨.func #[4] #[] false,1,8,.nilFunc,[.nilf]⟩),
 (78,⟨.slice 9,1,24,.slice none 0 0,[.nils false 1]⟩),
 (79,⟨.struct #[⟨"Op",5,0,false, "", "",0⟩,⟨"A",3,1,false, "", "",8⟩,⟨"B",3,2,false, "", "",16⟩,⟨"C",3,3,false, "", "",24⟩,⟨"Slots",40,4,false, "", "",32⟩,⟨"Path",78,5,false, "", "",56⟩,⟨"Int",2,6,false, "", "",80⟩,⟨"Name",9,7,false, "", "",88⟩,⟨"Names",78,8,false, "", "",104⟩],9,128,.agg #[.int .u8 0,.int .i64 0,.int .i64 0,.int .i64 0,.slice none 0 0,.slice none 0 0,.int .i64 0,.string ByteArray.empty,.slice none 0 0],[.d (.int .u8 0),.d (.int .i64 0),.d (.int .i64 0),.d (.int .i64 0),.nils false 1,.nils false 1,.d (.int .i64 0),.d (.str ByteArray.empty),.nils false 1]⟩)]
def eY:List (Nat×TI):=[(80,⟨.struct #[⟨"Op",5,0,false, "", "",0⟩,⟨"A",3,1,false, "", "",8⟩,⟨"B",3,2,false, "", "",16⟩,⟨"C",3,3,false, "", "",24⟩,⟨"Slots",40,4,false, "", "",32⟩,⟨"Path",78,5,false, "", "",56⟩,⟨"Int",2,6,false, "", "",80⟩,⟨"Name",9,7,false, "", "",88⟩,⟨"Names",78,8,false, "", "",104⟩],9,128,.agg #[.int .u8 0,.int .i64 0,.int .i64 0,.int .i64 0,.slice none 0 0,.slice none 0 0,.int .i64 0,.string ByteArray.empty,.slice none 0 0],[.d (.int .u8 0),.d (.int .i64 0),.d (.int .i64 0),.d (.int .i64 0),.nils false 1,.nils false 1,.d (.int .i64 0),.d (.str ByteArray.empty),.nils false 1]⟩),
 (81,⟨.func #[61,69,80] #[] false,1,8,.nilFunc,[.nilf]⟩),
 (82,⟨.func #[61,69,80] #[] false,1,8,.nilFunc,[.nilf]⟩),
 (83,⟨.func #[5] #[82] false,1,8,.nilFunc,[.nilf]⟩),
 (84,⟨.func #[3,61] #[4] false,1,8,.nilFunc,[.nilf]⟩),
 (85,⟨.struct #[⟨"Kind",5,0,false, "", "",0⟩,⟨"Thread",3,1,false, "", "",8⟩,⟨"ID",3,2,false, "", "",16⟩,⟨"Path",40,3,false, "", "",24⟩],4,48,.agg #[.int .u8 0,.int .i64 0,.int .i64 0,.slice none 0 0],[.d (.int .u8 0),.d (.int .i64 0),.d (.int .i64 0),.nils false 1]⟩),
 (86,⟨.struct #[⟨"Kind",5,0,false, "", "",0⟩,⟨"Thread",3,1,false, "", "",8⟩,⟨"ID",3,2,false, "", "",16⟩,⟨"Path",40,3,false, "", "",24⟩],4,48,.agg #[.int .u8 0,.int .i64 0,.int .i64 0,.slice none 0 0],[.d (.int .u8 0),.d (.int .i64 0),.d (.int .i64 0),.nils false 1]⟩),
 (87,⟨.func #[40] #[40] false,1,8,.nilFunc,[.nilf]⟩),
 (88,⟨.func #[71] #[22] true,1,8,.nilFunc,[.nilf]⟩),
 (89,⟨.func #[2] #[80] false,1,8,.nilFunc,[.nilf]⟩),
 (90,⟨.func #[86] #[9] false,1,8,.nilFunc,[.nilf]⟩),
 (91,⟨.array 7 9,7,112,.agg #[.string ByteArray.empty,.string ByteArray.empty,.string ByteArray.empty,.string ByteArray.empty,.string ByteArray.empty,.string ByteArray.empty,.string ByteArray.empty],[.d (.str ByteArray.empty),.d (.str ByteArray.empty),.d (.str ByteArray.empty),.d (.str ByteArray.empty),.d (.str ByteArray.empty),.d (.str ByteArray.empty),.d (.str ByteArray.empty)]⟩),
 (92,⟨.array 2 91,14,224,.agg #[.string ByteArray.empty,.string ByteArray.empty,.string ByteArray.empty,.string ByteArray.empty,.string ByteArray.empty,.string ByteArray.empty,.string ByteArray.empty,.string ByteArray.empty,.string ByteArray.empty,.string ByteArray.empty,.string ByteArray.empty,.string ByteArray.empty,.string ByteArray.empty,.string ByteArray.empty],[.d (.str ByteArray.empty),.d (.str ByteArray.empty),.d (.str ByteArray.empty),.d (.str ByteArray.empty),.d (.str ByteArray.empty),.d (.str ByteArray.empty),.d (.str ByteArray.empty),.d (.str ByteArray.empty),.d (.str ByteArray.empty),.d (.str ByteArray.empty),.d (.str ByteArray.empty),.d (.str ByteArray.empty),.d (.str ByteArray.empty),.d (.str ByteArray.empty)]⟩),
 (93,⟨.func #[] #[92] false,1,8,.nilFunc,[.nilf]⟩),
 (94,⟨.func #[2,3] #[9] false,1,8,.nilFunc,[.nilf]⟩),
 (95,⟨.func #[3] #[9] false,1,8,.nilFunc,[.nilf]⟩)]
def eZ:List (Nat×TI):=[(96,⟨.func #[91,5] #[9] false,1,8,.nilFunc,[.nilf]⟩),
 (97,⟨.func #[78,9] #[9] false,1,8,.nilFunc,[.nilf]⟩),
 (98,⟨.func #[2] #[9] false,1,8,.nilFunc,[.nilf]⟩),
 (99,⟨.func #[78,5] #[9] false,1,8,.nilFunc,[.nilf]⟩),
 (100,⟨.func #[71] #[26] true,1,8,.nilFunc,[.nilf]⟩),
 (102,⟨.func #[26,40,3] #[54,33,45] false,1,8,.nilFunc,[.nilf]⟩),
 (103,⟨.func #[26,40,3] #[9] false,1,8,.nilFunc,[.nilf]⟩),
 (104,⟨.func #[40,3] #[3] false,1,8,.nilFunc,[.nilf]⟩),
 (105,⟨.func #[61,69,4] #[4] false,1,8,.nilFunc,[.nilf]⟩),
 (106,⟨.func #[145] #[] false,1,8,.nilFunc,[.nilf]⟩),
 (107,⟨.func #[145] #[] false,1,8,.nilFunc,[.nilf]⟩),
 (108,⟨.func #[39] #[107] false,1,8,.nilFunc,[.nilf]⟩),
 (109,⟨.func #[42] #[] false,1,8,.nilFunc,[.nilf]⟩),
 (110,⟨.array 35 82,35,280,.agg #[.nilFunc,.nilFunc,.nilFunc,.nilFunc,.nilFunc,.nilFunc,.nilFunc,.nilFunc,.nilFunc,.nilFunc,.nilFunc,.nilFunc,.nilFunc,.nilFunc,.nilFunc,.nilFunc,.nilFunc,.nilFunc,.nilFunc,.nilFunc,.nilFunc,.nilFunc,.nilFunc,.nilFunc,.nilFunc,.nilFunc,.nilFunc,.nilFunc,.nilFunc,.nilFunc,.nilFunc,.nilFunc,.nilFunc,.nilFunc,.nilFunc],[.nilf,.nilf,.nilf,.nilf,.nilf,.nilf,.nilf,.nilf,.nilf,.nilf,.nilf,.nilf,.nilf,.nilf,.nilf,.nilf,.nilf,.nilf,.nilf,.nilf,.nilf,.nilf,.nilf,.nilf,.nilf,.nilf,.nilf,.nilf,.nilf,.nilf,.nilf,.nilf,.nilf,.nilf,.nilf]⟩),
 (111,⟨.func #[179] #[] false,1,8,.nilFunc,[.nilf]⟩)]
def fA:List (Nat×TI):=[(112,⟨.func #[179] #[] false,1,8,.nilFunc,[.nilf]⟩),
 (113,⟨.func #[58] #[112] false,1,8,.nilFunc,[.nilf]⟩),
 (114,⟨.struct #[⟨"kind",5,0,false, "", "weftway/machine",0⟩,⟨"n",3,1,false, "", "weftway/machine",8⟩],2,16,.agg #[.int .u8 0,.int .i64 0],[.d (.int .u8 0),.d (.int .i64 0)]⟩),
 (115,⟨.struct #[⟨"kind",5,0,false, "", "weftway/machine",0⟩,⟨"n",3,1,false, "", "weftway/machine",8⟩],2,16,.agg #[.int .u8 0,.int .i64 0],[.d (.int .u8 0),.d (.int .i64 0)]⟩),
 (116,⟨.map 5 5,1,8,.map none,[.nilm]⟩),
 (117,⟨.func #[69,80] #[42] false,1,8,.nilFunc,[.nilf]⟩),
 (118,⟨.func #[3,3] #[3] false,1,8,.nilFunc,[.nilf]⟩),
 (119,⟨.func #[3] #[3] false,1,8,.nilFunc,[.nilf]⟩),
 (120,⟨.map 3 227,1,8,.map none,[.nilm]⟩),
 (121,⟨.struct #[⟨"cells",120,0,false, "", "weftway/heap",0⟩,⟨"left",3,1,false, "", "weftway/heap",8⟩],2,16,.agg #[.map none,.int .i64 0],[.nilm,.d (.int .i64 0)]⟩),
 (122,⟨.struct #[⟨"cells",120,0,false, "", "weftway/heap",0⟩,⟨"left",3,1,false, "", "weftway/heap",8⟩],2,16,.agg #[.map none,.int .i64 0],[.nilm,.d (.int .i64 0)]⟩),
 (124,⟨.func #[26] #[22,45] false,1,8,.nilFunc,[.nilf]⟩),
 (125,⟨.array 10 9,10,160,.agg #[.string ByteArray.empty,.string ByteArray.empty,.string ByteArray.empty,.string ByteArray.empty,.string ByteArray.empty,.string ByteArray.empty,.string ByteArray.empty,.string ByteArray.empty,.string ByteArray.empty,.string ByteArray.empty],[.d (.str ByteArray.empty),.d (.str ByteArray.empty),.d (.str ByteArray.empty),.d (.str ByteArray.empty),.d (.str ByteArray.empty),.d (.str ByteArray.empty),.d (.str ByteArray.empty),.d (.str ByteArray.empty),.d (.str ByteArray.empty),.d (.str ByteArray.empty)]⟩),
 (126,⟨.func #[] #[125] false,1,8,.nilFunc,[.nilf]⟩),
 (127,⟨.pointer 130,1,8,.pointer none,[.nilp]⟩)]
def fB:List (Nat×TI):=[(128,⟨.slice 5,1,24,.slice none 0 0,[.nils false 1]⟩),
 (129,⟨.struct #[⟨"addr",127,0,false, "", "strings",0⟩,⟨"buf",128,1,false, "", "strings",8⟩],2,32,.agg #[.pointer none,.slice none 0 0],[.nilp,.nils false 1]⟩),
 (130,⟨.struct #[⟨"addr",127,0,false, "", "strings",0⟩,⟨"buf",128,1,false, "", "strings",8⟩],2,32,.agg #[.pointer none,.slice none 0 0],[.nilp,.nils false 1]⟩),
 (131,⟨.func #[3] #[] false,1,8,.nilFunc,[.nilf]⟩),
 (135,⟨.func #[9] #[3,133] false,1,8,.nilFunc,[.nilf]⟩),
 (136,⟨.func #[] #[9] false,1,8,.nilFunc,[.nilf]⟩),
 (138,⟨.func #[22,40] #[54,4] false,1,8,.nilFunc,[.nilf]⟩),
 (139,⟨.func #[3,4] #[45] false,1,8,.nilFunc,[.nilf]⟩),
 (140,⟨.func #[5,3,40] #[] true,1,8,.nilFunc,[.nilf]⟩),
 (141,⟨.func #[5] #[] false,1,8,.nilFunc,[.nilf]⟩),
 (142,⟨.func #[3,3,4] #[5] false,1,8,.nilFunc,[.nilf]⟩)]
def fC:List (Nat×TI):=[(144,⟨.func #[3] #[4,45] false,1,8,.nilFunc,[.nilf]⟩),
 (145,⟨.func #[3,42] #[4] false,1,8,.nilFunc,[.nilf]⟩),
 (146,⟨.func #[3,5] #[] false,1,8,.nilFunc,[.nilf]⟩),
 (148,⟨.func #[3,40] #[42,5] false,1,8,.nilFunc,[.nilf]⟩),
 (149,⟨.func #[3] #[5] false,1,8,.nilFunc,[.nilf]⟩),
 (150,⟨.func #[3,3] #[4] false,1,8,.nilFunc,[.nilf]⟩),
 (151,⟨.func #[3,3] #[] false,1,8,.nilFunc,[.nilf]⟩),
 (153,⟨.func #[42] #[3,45] false,1,8,.nilFunc,[.nilf]⟩),
 (154,⟨.func #[39] #[] true,1,8,.nilFunc,[.nilf]⟩),
 (155,⟨.func #[5,3] #[] false,1,8,.nilFunc,[.nilf]⟩),
 (157,⟨.func #[69,3,78] #[3,40] false,1,8,.nilFunc,[.nilf]⟩),
 (158,⟨.func #[42] #[4] false,1,8,.nilFunc,[.nilf]⟩),
 (159,⟨.func #[3,40,42] #[] false,1,8,.nilFunc,[.nilf]⟩)]
def Yk:List (Nat×TI):=[(160,⟨.func #[5] #[42] false,1,8,.nilFunc,[.nilf]⟩),
 (161,⟨.func #[4] #[42] false,1,8,.nilFunc,[.nilf]⟩),
 (163,⟨.func #[2] #[2,45] false,1,8,.nilFunc,[.nilf]⟩),
 (164,⟨.func #[2,45] #[42] false,1,8,.nilFunc,[.nilf]⟩),
 (165,⟨.func #[3] #[39] false,1,8,.nilFunc,[.nilf]⟩),
 (166,⟨.func #[2,2] #[2,45] false,1,8,.nilFunc,[.nilf]⟩),
 (167,⟨.func #[5] #[166] false,1,8,.nilFunc,[.nilf]⟩),
 (168,⟨.func #[39] #[39] false,1,8,.nilFunc,[.nilf]⟩),
 (169,⟨.func #[39] #[] false,1,8,.nilFunc,[.nilf]⟩),
 (170,⟨.func #[69,3] #[40] false,1,8,.nilFunc,[.nilf]⟩),
 (171,⟨.func #[3,40] #[69] false,1,8,.nilFunc,[.nilf]⟩),
 (172,⟨.func #[42] #[3] false,1,8,.nilFunc,[.nilf]⟩),
 (173,⟨.func #[3] #[42] false,1,8,.nilFunc,[.nilf]⟩),
 (174,⟨.func #[3,42] #[] false,1,8,.nilFunc,[.nilf]⟩),
 (175,⟨.func #[] #[42] false,1,8,.nilFunc,[.nilf]⟩)]
def Yl:List (Nat×TI):=[(176,⟨.func #[69,80,5] #[3] false,1,8,.nilFunc,[.nilf]⟩),
 (177,⟨.func #[3] #[42,4] false,1,8,.nilFunc,[.nilf]⟩),
 (178,⟨.func #[3] #[3,45] false,1,8,.nilFunc,[.nilf]⟩),
 (179,⟨.func #[3,69] #[4] false,1,8,.nilFunc,[.nilf]⟩),
 (180,⟨.func #[52] #[] false,1,8,.nilFunc,[.nilf]⟩),
 (181,⟨.func #[52] #[] false,1,8,.nilFunc,[.nilf]⟩),
 (182,⟨.func #[3] #[181] false,1,8,.nilFunc,[.nilf]⟩),
 (183,⟨.slice 40,1,24,.slice none 0 0,[.nils false 1]⟩),
 (184,⟨.struct #[⟨"parent",3,0,false, "", "weftway/threads",0⟩,⟨"ended",4,1,false, "", "weftway/threads",8⟩,⟨"panicked",4,2,false, "", "weftway/threads",9⟩,⟨"scopes",183,3,false, "", "weftway/threads",16⟩],4,40,.agg #[.int .i64 0,.bool false,.bool false,.slice none 0 0],[.d (.int .i64 0),.d (.bool false),.d (.bool false),.nils false 1]⟩),
 (185,⟨.struct #[⟨"parent",3,0,false, "", "weftway/threads",0⟩,⟨"ended",4,1,false, "", "weftway/threads",8⟩,⟨"panicked",4,2,false, "", "weftway/threads",9⟩,⟨"scopes",183,3,false, "", "weftway/threads",16⟩],4,40,.agg #[.int .i64 0,.bool false,.bool false,.slice none 0 0],[.d (.int .i64 0),.d (.bool false),.d (.bool false),.nils false 1]⟩),
 (186,⟨.slice 185,1,24,.slice none 0 0,[.nils true 4]⟩),
 (187,⟨.struct #[⟨"l",186,0,false, "", "weftway/threads",0⟩],1,24,.agg #[.slice none 0 0],[.nils true 4]⟩),
 (188,⟨.struct #[⟨"l",186,0,false, "", "weftway/threads",0⟩],1,24,.agg #[.slice none 0 0],[.nils true 4]⟩),
 (189,⟨.func #[3] #[42,5] false,1,8,.nilFunc,[.nilf]⟩),
 (190,⟨.map 194 3,1,8,.map none,[.nilm]⟩),
 (191,⟨.struct #[⟨"m",190,0,false, "", "weftway/counts",0⟩],1,8,.agg #[.map none],[.nilm]⟩)]
def Ym:List (Nat×TI):=[(192,⟨.struct #[⟨"m",190,0,false, "", "weftway/counts",0⟩],1,8,.agg #[.map none],[.nilm]⟩),
 (193,⟨.struct #[⟨"id",3,0,false, "", "weftway/counts",0⟩,⟨"end",3,1,false, "", "weftway/counts",8⟩],2,16,.agg #[.int .i64 0,.int .i64 0],[.d (.int .i64 0),.d (.int .i64 0)]⟩),
 (194,⟨.struct #[⟨"id",3,0,false, "", "weftway/counts",0⟩,⟨"end",3,1,false, "", "weftway/counts",8⟩],2,16,.agg #[.int .i64 0,.int .i64 0],[.d (.int .i64 0),.d (.int .i64 0)]⟩),
 (195,⟨.pointer 199,1,8,.pointer none,[.nilp]⟩),
 (196,⟨.func #[3] #[195] false,1,8,.nilFunc,[.nilf]⟩),
 (197,⟨.array 8 42,48,704,.agg #[.int .u8 0,.int .i64 0,.string ByteArray.empty,.slice none 0 0,.int .i64 0,.slice none 0 0,.int .u8 0,.int .i64 0,.string ByteArray.empty,.slice none 0 0,.int .i64 0,.slice none 0 0,.int .u8 0,.int .i64 0,.string ByteArray.empty,.slice none 0 0,.int .i64 0,.slice none 0 0,.int .u8 0,.int .i64 0,.string ByteArray.empty,.slice none 0 0,.int .i64 0,.slice none 0 0,.int .u8 0,.int .i64 0,.string ByteArray.empty,.slice none 0 0,.int .i64 0,.slice none 0 0,.int .u8 0,.int .i64 0,.string ByteArray.empty,.slice none 0 0,.int .i64 0,.slice none 0 0,.int .u8 0,.int .i64 0,.string ByteArray.empty,.slice none 0 0,.int .i64 0,.slice none 0 0,.int .u8 0,.int .i64 0,.string ByteArray.empty,.slice none 0 0,.int .i64 0,.slice none 0 0],[.d (.int .u8 0),.d (.int .i64 0),.d (.str ByteArray.empty),.nils true 6,.d (.int .i64 0),.nils false 1,.d (.int .u8 0),.d (.int .i64 0),.d (.str ByteArray.empty),.nils true 6,.d (.int .i64 0),.nils false 1,.d (.int .u8 0),.d (.int .i64 0),.d (.str ByteArray.empty),.nils true 6,.d (.int .i64 0),.nils false 1,.d (.int .u8 0),.d (.int .i64 0),.d (.str ByteArray.empty),.nils true 6,.d (.int .i64 0),.nils false 1,.d (.int .u8 0),.d (.int .i64 0),.d (.str ByteArray.empty),.nils true 6,.d (.int .i64 0),.nils false 1,.d (.int .u8 0),.d (.int .i64 0),.d (.str ByteArray.empty),.nils true 6,.d (.int .i64 0),.nils false 1,.d (.int .u8 0),.d (.int .i64 0),.d (.str ByteArray.empty),.nils true 6,.d (.int .i64 0),.nils false 1,.d (.int .u8 0),.d (.int .i64 0),.d (.str ByteArray.empty),.nils true 6,.d (.int .i64 0),.nils false 1]⟩),
 (198,⟨.struct #[⟨"room",3,0,false, "", "weftway/queues",0⟩,⟨"first",3,1,false, "", "weftway/queues",8⟩,⟨"n",3,2,false, "", "weftway/queues",16⟩,⟨"l",197,3,false, "", "weftway/queues",24⟩],51,728,.agg #[.int .i64 0,.int .i64 0,.int .i64 0,.int .u8 0,.int .i64 0,.string ByteArray.empty,.slice none 0 0,.int .i64 0,.slice none 0 0,.int .u8 0,.int .i64 0,.string ByteArray.empty,.slice none 0 0,.int .i64 0,.slice none 0 0,.int .u8 0,.int .i64 0,.string ByteArray.empty,.slice none 0 0,.int .i64 0,.slice none 0 0,.int .u8 0,.int .i64 0,.string ByteArray.empty,.slice none 0 0,.int .i64 0,.slice none 0 0,.int .u8 0,.int .i64 0,.string ByteArray.empty,.slice none 0 0,.int .i64 0,.slice none 0 0,.int .u8 0,.int .i64 0,.string ByteArray.empty,.slice none 0 0,.int .i64 0,.slice none 0 0,.int .u8 0,.int .i64 0,.string ByteArray.empty,.slice none 0 0,.int .i64 0,.slice none 0 0,.int .u8 0,.int .i64 0,.string ByteArray.empty,.slice none 0 0,.int .i64 0,.slice none 0 0],[.d (.int .i64 0),.d (.int .i64 0),.d (.int .i64 0),.d (.int .u8 0),.d (.int .i64 0),.d (.str ByteArray.empty),.nils true 6,.d (.int .i64 0),.nils false 1,.d (.int .u8 0),.d (.int .i64 0),.d (.str ByteArray.empty),.nils true 6,.d (.int .i64 0),.nils false 1,.d (.int .u8 0),.d (.int .i64 0),.d (.str ByteArray.empty),.nils true 6,.d (.int .i64 0),.nils false 1,.d (.int .u8 0),.d (.int .i64 0),.d (.str ByteArray.empty),.nils true 6,.d (.int .i64 0),.nils false 1,.d (.int .u8 0),.d (.int .i64 0),.d (.str ByteArray.empty),.nils true 6,.d (.int .i64 0),.nils false 1,.d (.int .u8 0),.d (.int .i64 0),.d (.str ByteArray.empty),.nils true 6,.d (.int .i64 0),.nils false 1,.d (.int .u8 0),.d (.int .i64 0),.d (.str ByteArray.empty),.nils true 6,.d (.int .i64 0),.nils false 1,.d (.int .u8 0),.d (.int .i64 0),.d (.str ByteArray.empty),.nils true 6,.d (.int .i64 0),.nils false 1]⟩),
 (199,⟨.struct #[⟨"room",3,0,false, "", "weftway/queues",0⟩,⟨"first",3,1,false, "", "weftway/queues",8⟩,⟨"n",3,2,false, "", "weftway/queues",16⟩,⟨"l",197,3,false, "", "weftway/queues",24⟩],51,728,.agg #[.int .i64 0,.int .i64 0,.int .i64 0,.int .u8 0,.int .i64 0,.string ByteArray.empty,.slice none 0 0,.int .i64 0,.slice none 0 0,.int .u8 0,.int .i64 0,.string ByteArray.empty,.slice none 0 0,.int .i64 0,.slice none 0 0,.int .u8 0,.int .i64 0,.string ByteArray.empty,.slice none 0 0,.int .i64 0,.slice none 0 0,.int .u8 0,.int .i64 0,.string ByteArray.empty,.slice none 0 0,.int .i64 0,.slice none 0 0,.int .u8 0,.int .i64 0,.string ByteArray.empty,.slice none 0 0,.int .i64 0,.slice none 0 0,.int .u8 0,.int .i64 0,.string ByteArray.empty,.slice none 0 0,.int .i64 0,.slice none 0 0,.int .u8 0,.int .i64 0,.string ByteArray.empty,.slice none 0 0,.int .i64 0,.slice none 0 0,.int .u8 0,.int .i64 0,.string ByteArray.empty,.slice none 0 0,.int .i64 0,.slice none 0 0],[.d (.int .i64 0),.d (.int .i64 0),.d (.int .i64 0),.d (.int .u8 0),.d (.int .i64 0),.d (.str ByteArray.empty),.nils true 6,.d (.int .i64 0),.nils false 1,.d (.int .u8 0),.d (.int .i64 0),.d (.str ByteArray.empty),.nils true 6,.d (.int .i64 0),.nils false 1,.d (.int .u8 0),.d (.int .i64 0),.d (.str ByteArray.empty),.nils true 6,.d (.int .i64 0),.nils false 1,.d (.int .u8 0),.d (.int .i64 0),.d (.str ByteArray.empty),.nils true 6,.d (.int .i64 0),.nils false 1,.d (.int .u8 0),.d (.int .i64 0),.d (.str ByteArray.empty),.nils true 6,.d (.int .i64 0),.nils false 1,.d (.int .u8 0),.d (.int .i64 0),.d (.str ByteArray.empty),.nils true 6,.d (.int .i64 0),.nils false 1,.d (.int .u8 0),.d (.int .i64 0),.d (.str ByteArray.empty),.nils true 6,.d (.int .i64 0),.nils false 1,.d (.int .u8 0),.d (.int .i64 0),.d (.str ByteArray.empty),.nils true 6,.d (.int .i64 0),.nils false 1]⟩),
 (200,⟨.struct #[⟨"holder",3,0,false, "", "weftway/locks",0⟩,⟨"poisoned",4,1,false, "", "weftway/locks",8⟩],2,16,.agg #[.int .i64 0,.bool false],[.d (.int .i64 0),.d (.bool false)]⟩),
 (201,⟨.struct #[⟨"holder",3,0,false, "", "weftway/locks",0⟩,⟨"poisoned",4,1,false, "", "weftway/locks",8⟩],2,16,.agg #[.int .i64 0,.bool false],[.d (.int .i64 0),.d (.bool false)]⟩),
 (203,⟨.func #[3] #[201,4] false,1,8,.nilFunc,[.nilf]⟩),
 (204,⟨.func #[26] #[45] false,1,8,.nilFunc,[.nilf]⟩),
 (205,⟨.func #[26] #[26] false,1,8,.nilFunc,[.nilf]⟩),
 (206,⟨.func #[] #[27] false,1,8,.nilFunc,[.nilf]⟩),
 (207,⟨.func #[] #[28] false,1,8,.nilFunc,[.nilf]⟩)]
def Yn:List (Nat×TI):=[(208,⟨.func #[] #[29] false,1,8,.nilFunc,[.nilf]⟩),
 (209,⟨.func #[] #[30] false,1,8,.nilFunc,[.nilf]⟩),
 (210,⟨.func #[] #[31] false,1,8,.nilFunc,[.nilf]⟩),
 (211,⟨.array 24 5,24,24,.agg #[.int .u8 0,.int .u8 0,.int .u8 0,.int .u8 0,.int .u8 0,.int .u8 0,.int .u8 0,.int .u8 0,.int .u8 0,.int .u8 0,.int .u8 0,.int .u8 0,.int .u8 0,.int .u8 0,.int .u8 0,.int .u8 0,.int .u8 0,.int .u8 0,.int .u8 0,.int .u8 0,.int .u8 0,.int .u8 0,.int .u8 0,.int .u8 0],[.d (.int .u8 0),.d (.int .u8 0),.d (.int .u8 0),.d (.int .u8 0),.d (.int .u8 0),.d (.int .u8 0),.d (.int .u8 0),.d (.int .u8 0),.d (.int .u8 0),.d (.int .u8 0),.d (.int .u8 0),.d (.int .u8 0),.d (.int .u8 0),.d (.int .u8 0),.d (.int .u8 0),.d (.int .u8 0),.d (.int .u8 0),.d (.int .u8 0),.d (.int .u8 0),.d (.int .u8 0),.d (.int .u8 0),.d (.int .u8 0),.d (.int .u8 0),.d (.int .u8 0)]⟩),
 (212,⟨.int .u64,1,8,.int .u64 0,[.d (.int .u64 0)]⟩),
 (213,⟨.func #[212] #[3] false,1,8,.nilFunc,[.nilf]⟩),
 (214,⟨.func #[128,212] #[] false,1,8,.nilFunc,[.nilf]⟩),
 (216,⟨.func #[128,212,3,4,4] #[128,9] false,1,8,.nilFunc,[.nilf]⟩),
 (217,⟨.pointer 5,1,8,.pointer none,[.nilp]⟩),
 (218,⟨.func #[3,3] #[45] false,1,8,.nilFunc,[.nilf]⟩),
 (219,⟨.map 3 201,1,8,.map none,[.nilm]⟩),
 (220,⟨.struct #[⟨"m",219,0,false, "", "weftway/locks",0⟩],1,8,.agg #[.map none],[.nilm]⟩),
 (221,⟨.struct #[⟨"m",219,0,false, "", "weftway/locks",0⟩],1,8,.agg #[.map none],[.nilm]⟩),
 (222,⟨.func #[181] #[40] false,1,8,.nilFunc,[.nilf]⟩),
 (223,⟨.func #[42,40] #[42,5] false,1,8,.nilFunc,[.nilf]⟩)]
def Yo:List (Nat×TI):=[(225,⟨.func #[3,3] #[3,4] false,1,8,.nilFunc,[.nilf]⟩),
 (226,⟨.struct #[⟨"v",42,0,false, "", "weftway/heap",0⟩,⟨"freed",4,6,false, "", "weftway/heap",88⟩],7,96,.agg #[.int .u8 0,.int .i64 0,.string ByteArray.empty,.slice none 0 0,.int .i64 0,.slice none 0 0,.bool false],[.d (.int .u8 0),.d (.int .i64 0),.d (.str ByteArray.empty),.nils true 6,.d (.int .i64 0),.nils false 1,.d (.bool false)]⟩),
 (227,⟨.struct #[⟨"v",42,0,false, "", "weftway/heap",0⟩,⟨"freed",4,6,false, "", "weftway/heap",88⟩],7,96,.agg #[.int .u8 0,.int .i64 0,.string ByteArray.empty,.slice none 0 0,.int .i64 0,.slice none 0 0,.bool false],[.d (.int .u8 0),.d (.int .i64 0),.d (.str ByteArray.empty),.nils true 6,.d (.int .i64 0),.nils false 1,.d (.bool false)]⟩),
 (228,⟨.func #[26,9,9] #[3,4] false,1,8,.nilFunc,[.nilf]⟩),
 (229,⟨.func #[3,40,42] #[42,5] false,1,8,.nilFunc,[.nilf]⟩),
 (230,⟨.func #[3,40,42] #[5] false,1,8,.nilFunc,[.nilf]⟩),
 (231,⟨.func #[2,2,232] #[2,45] false,1,8,.nilFunc,[.nilf]⟩),
 (232,⟨.func #[235,235] #[235,4] false,1,8,.nilFunc,[.nilf]⟩),
 (233,⟨.func #[235] #[235,4] false,1,8,.nilFunc,[.nilf]⟩),
 (234,⟨.struct #[⟨"lower",4,0,false, "", "weftway/num",0⟩,⟨"size",212,1,false, "", "weftway/num",8⟩],2,16,.agg #[.bool false,.int .u64 0],[.d (.bool false),.d (.int .u64 0)]⟩),
 (235,⟨.struct #[⟨"lower",4,0,false, "", "weftway/num",0⟩,⟨"size",212,1,false, "", "weftway/num",8⟩],2,16,.agg #[.bool false,.int .u64 0],[.d (.bool false),.d (.int .u64 0)]⟩),
 (236,⟨.map 5 166,1,8,.map none,[.nilm]⟩),
 (237,⟨.map 3 195,1,8,.map none,[.nilm]⟩),
 (238,⟨.struct #[⟨"m",237,0,false, "", "weftway/queues",0⟩],1,8,.agg #[.map none],[.nilm]⟩),
 (239,⟨.struct #[⟨"m",237,0,false, "", "weftway/queues",0⟩],1,8,.agg #[.map none],[.nilm]⟩)]
def Yp:List (Nat×TI):=[(241,⟨.func #[24] #[4] false,1,8,.nilFunc,[.nilf]⟩),
 (242,⟨.func #[9] #[4] false,1,8,.nilFunc,[.nilf]⟩),
 (243,⟨.func #[26,3,80] #[45] false,1,8,.nilFunc,[.nilf]⟩),
 (244,⟨.func #[78] #[78] false,1,8,.nilFunc,[.nilf]⟩),
 (245,⟨.slice 259,1,24,.slice none 0 0,[.nils true 4]⟩),
 (246,⟨.slice 248,1,24,.slice none 0 0,[.nils true 3]⟩),
 (247,⟨.struct #[⟨"Kind",5,0,false, "", "",0⟩,⟨"Name",9,1,false, "", "",8⟩,⟨"Args",246,2,false, "", "",24⟩],3,48,.agg #[.int .u8 0,.string ByteArray.empty,.slice none 0 0],[.d (.int .u8 0),.d (.str ByteArray.empty),.nils true 3]⟩),
 (248,⟨.struct #[⟨"Kind",5,0,false, "", "",0⟩,⟨"Name",9,1,false, "", "",8⟩,⟨"Args",246,2,false, "", "",24⟩],3,48,.agg #[.int .u8 0,.string ByteArray.empty,.slice none 0 0],[.d (.int .u8 0),.d (.str ByteArray.empty),.nils true 3]⟩),
 (249,⟨.slice 320,1,24,.slice none 0 0,[.nils true 15]⟩),
 (250,⟨.struct #[⟨"Name",9,0,false, "", "",0⟩,⟨"Path",78,1,false, "", "",16⟩],2,40,.agg #[.string ByteArray.empty,.slice none 0 0],[.d (.str ByteArray.empty),.nils false 1]⟩),
 (251,⟨.struct #[⟨"Name",9,0,false, "", "",0⟩,⟨"Path",78,1,false, "", "",16⟩],2,40,.agg #[.string ByteArray.empty,.slice none 0 0],[.d (.str ByteArray.empty),.nils false 1]⟩),
 (252,⟨.slice 254,1,24,.slice none 0 0,[.nils true 8]⟩),
 (253,⟨.struct #[⟨"Op",5,0,false, "", "",0⟩,⟨"Int",2,1,false, "", "",8⟩,⟨"Name",9,2,false, "", "",16⟩,⟨"Second",9,3,false, "", "",32⟩,⟨"Place",251,4,false, "", "",48⟩,⟨"Args",252,6,false, "", "",88⟩,⟨"At",3,7,false, "", "",112⟩],8,120,.agg #[.int .u8 0,.int .i64 0,.string ByteArray.empty,.string ByteArray.empty,.string ByteArray.empty,.slice none 0 0,.slice none 0 0,.int .i64 0],[.d (.int .u8 0),.d (.int .i64 0),.d (.str ByteArray.empty),.d (.str ByteArray.empty),.d (.str ByteArray.empty),.nils false 1,.nils true 8,.d (.int .i64 0)]⟩),
 (254,⟨.struct #[⟨"Op",5,0,false, "", "",0⟩,⟨"Int",2,1,false, "", "",8⟩,⟨"Name",9,2,false, "", "",16⟩,⟨"Second",9,3,false, "", "",32⟩,⟨"Place",251,4,false, "", "",48⟩,⟨"Args",252,6,false, "", "",88⟩,⟨"At",3,7,false, "", "",112⟩],8,120,.agg #[.int .u8 0,.int .i64 0,.string ByteArray.empty,.string ByteArray.empty,.string ByteArray.empty,.slice none 0 0,.slice none 0 0,.int .i64 0],[.d (.int .u8 0),.d (.int .i64 0),.d (.str ByteArray.empty),.d (.str ByteArray.empty),.d (.str ByteArray.empty),.nils false 1,.nils true 8,.d (.int .i64 0)]⟩),
 (255,⟨.struct #[⟨"Kind",5,0,false, "", "",0⟩,⟨"Name",9,1,false, "", "",8⟩,⟨"Fields",245,2,false, "", "",24⟩,⟨"Result",248,3,false, "", "",48⟩,⟨"Body",249,6,false, "", "",96⟩,⟨"Return",254,7,false, "", "",120⟩,⟨"At",3,15,false, "", "",240⟩],16,248,.agg #[.int .u8 0,.string ByteArray.empty,.slice none 0 0,.int .u8 0,.string ByteArray.empty,.slice none 0 0,.slice none 0 0,.int .u8 0,.int .i64 0,.string ByteArray.empty,.string ByteArray.empty,.string ByteArray.empty,.slice none 0 0,.slice none 0 0,.int .i64 0,.int .i64 0],[.d (.int .u8 0),.d (.str ByteArray.empty),.nils true 4,.d (.int .u8 0),.d (.str ByteArray.empty),.nils true 3,.nils true 15,.d (.int .u8 0),.d (.int .i64 0),.d (.str ByteArray.empty),.d (.str ByteArray.empty),.d (.str ByteArray.empty),.nils false 1,.nils true 8,.d (.int .i64 0),.d (.int .i64 0)]⟩)]
def Yq:List (Nat×TI):=[(256,⟨.struct #[⟨"Kind",5,0,false, "", "",0⟩,⟨"Name",9,1,false, "", "",8⟩,⟨"Fields",245,2,false, "", "",24⟩,⟨"Result",248,3,false, "", "",48⟩,⟨"Body",249,6,false, "", "",96⟩,⟨"Return",254,7,false, "", "",120⟩,⟨"At",3,15,false, "", "",240⟩],16,248,.agg #[.int .u8 0,.string ByteArray.empty,.slice none 0 0,.int .u8 0,.string ByteArray.empty,.slice none 0 0,.slice none 0 0,.int .u8 0,.int .i64 0,.string ByteArray.empty,.string ByteArray.empty,.string ByteArray.empty,.slice none 0 0,.slice none 0 0,.int .i64 0,.int .i64 0],[.d (.int .u8 0),.d (.str ByteArray.empty),.nils true 4,.d (.int .u8 0),.d (.str ByteArray.empty),.nils true 3,.nils true 15,.d (.int .u8 0),.d (.int .i64 0),.d (.str ByteArray.empty),.d (.str ByteArray.empty),.d (.str ByteArray.empty),.nils false 1,.nils true 8,.d (.int .i64 0),.d (.int .i64 0)]⟩),
 (257,⟨.func #[245] #[245] false,1,8,.nilFunc,[.nilf]⟩),
 (258,⟨.struct #[⟨"Name",9,0,false, "", "",0⟩,⟨"Type",248,1,false, "", "",16⟩],4,64,.agg #[.string ByteArray.empty,.int .u8 0,.string ByteArray.empty,.slice none 0 0],[.d (.str ByteArray.empty),.d (.int .u8 0),.d (.str ByteArray.empty),.nils true 3]⟩),
 (259,⟨.struct #[⟨"Name",9,0,false, "", "",0⟩,⟨"Type",248,1,false, "", "",16⟩],4,64,.agg #[.string ByteArray.empty,.int .u8 0,.string ByteArray.empty,.slice none 0 0],[.d (.str ByteArray.empty),.d (.int .u8 0),.d (.str ByteArray.empty),.nils true 3]⟩),
 (260,⟨.func #[4] #[3] false,1,8,.nilFunc,[.nilf]⟩),
 (261,⟨.array 20 212,20,160,.agg #[.int .u64 0,.int .u64 0,.int .u64 0,.int .u64 0,.int .u64 0,.int .u64 0,.int .u64 0,.int .u64 0,.int .u64 0,.int .u64 0,.int .u64 0,.int .u64 0,.int .u64 0,.int .u64 0,.int .u64 0,.int .u64 0,.int .u64 0,.int .u64 0,.int .u64 0,.int .u64 0],[.d (.int .u64 0),.d (.int .u64 0),.d (.int .u64 0),.d (.int .u64 0),.d (.int .u64 0),.d (.int .u64 0),.d (.int .u64 0),.d (.int .u64 0),.d (.int .u64 0),.d (.int .u64 0),.d (.int .u64 0),.d (.int .u64 0),.d (.int .u64 0),.d (.int .u64 0),.d (.int .u64 0),.d (.int .u64 0),.d (.int .u64 0),.d (.int .u64 0),.d (.int .u64 0),.d (.int .u64 0)]⟩),
 (262,⟨.int .u32,1,4,.int .u32 0,[.d (.int .u32 0)]⟩),
 (264,⟨.int .u64,1,8,.int .u64 0,[.d (.int .u64 0)]⟩),
 (265,⟨.func #[264] #[3] false,1,8,.nilFunc,[.nilf]⟩),
 (267,⟨.func #[266] #[266] false,1,8,.nilFunc,[.nilf]⟩),
 (268,⟨.func #[3] #[128] false,1,8,.nilFunc,[.nilf]⟩),
 (269,⟨.func #[40,181] #[40] false,1,8,.nilFunc,[.nilf]⟩),
 (270,⟨.func #[42,3] #[5] false,1,8,.nilFunc,[.nilf]⟩),
 (271,⟨.func #[158] #[] false,1,8,.nilFunc,[.nilf]⟩)]
def Yr:List (Nat×TI):=[(272,⟨.func #[158] #[] false,1,8,.nilFunc,[.nilf]⟩),
 (273,⟨.func #[] #[272] false,1,8,.nilFunc,[.nilf]⟩),
 (274,⟨.func #[245,275] #[3] false,1,8,.nilFunc,[.nilf]⟩),
 (275,⟨.func #[259] #[4] false,1,8,.nilFunc,[.nilf]⟩),
 (276,⟨.func #[3,278] #[5] false,1,8,.nilFunc,[.nilf]⟩),
 (277,⟨.func #[42,40,42] #[42,5] false,1,8,.nilFunc,[.nilf]⟩),
 (278,⟨.func #[42] #[42,5] false,1,8,.nilFunc,[.nilf]⟩),
 (280,⟨.func #[2] #[235] false,1,8,.nilFunc,[.nilf]⟩),
 (281,⟨.func #[4] #[2,45] false,1,8,.nilFunc,[.nilf]⟩),
 (282,⟨.func #[] #[235] false,1,8,.nilFunc,[.nilf]⟩),
 (283,⟨.func #[256] #[4] false,1,8,.nilFunc,[.nilf]⟩),
 (284,⟨.func #[24,283] #[4] false,1,8,.nilFunc,[.nilf]⟩),
 (285,⟨.struct #[⟨"text",9,0,false, "", "weftway/code",0⟩,⟨"a",3,1,false, "", "weftway/code",16⟩,⟨"b",3,2,false, "", "weftway/code",24⟩,⟨"path",4,3,false, "", "weftway/code",32⟩,⟨"slots",4,4,false, "", "weftway/code",33⟩,⟨"wide",4,5,false, "", "weftway/code",34⟩,⟨"name",4,6,false, "", "weftway/code",35⟩,⟨"kinds",40,7,false, "", "weftway/code",40⟩],8,64,.agg #[.string ByteArray.empty,.int .i64 0,.int .i64 0,.bool false,.bool false,.bool false,.bool false,.slice none 0 0],[.d (.str ByteArray.empty),.d (.int .i64 0),.d (.int .i64 0),.d (.bool false),.d (.bool false),.d (.bool false),.d (.bool false),.nils false 1]⟩),
 (286,⟨.struct #[⟨"text",9,0,false, "", "weftway/code",0⟩,⟨"a",3,1,false, "", "weftway/code",16⟩,⟨"b",3,2,false, "", "weftway/code",24⟩,⟨"path",4,3,false, "", "weftway/code",32⟩,⟨"slots",4,4,false, "", "weftway/code",33⟩,⟨"wide",4,5,false, "", "weftway/code",34⟩,⟨"name",4,6,false, "", "weftway/code",35⟩,⟨"kinds",40,7,false, "", "weftway/code",40⟩],8,64,.agg #[.string ByteArray.empty,.int .i64 0,.int .i64 0,.bool false,.bool false,.bool false,.bool false,.slice none 0 0],[.d (.str ByteArray.empty),.d (.int .i64 0),.d (.int .i64 0),.d (.bool false),.d (.bool false),.d (.bool false),.d (.bool false),.nils false 1]⟩)]
def Ys:List (Nat×TI):=[(288,⟨.func #[5] #[286,4] false,1,8,.nilFunc,[.nilf]⟩),
 (289,⟨.func #[286,80] #[4] false,1,8,.nilFunc,[.nilf]⟩),
 (290,⟨.func #[78,242] #[4] false,1,8,.nilFunc,[.nilf]⟩),
 (291,⟨.func #[40,52] #[4] false,1,8,.nilFunc,[.nilf]⟩),
 (292,⟨.func #[26,73,286,80,3,3] #[4] false,1,8,.nilFunc,[.nilf]⟩),
 (293,⟨.func #[262] #[3] false,1,8,.nilFunc,[.nilf]⟩),
 (294,⟨.func #[42,40] #[42] false,1,8,.nilFunc,[.nilf]⟩),
 (296,⟨.func #[212,212,212] #[212,212] false,1,8,.nilFunc,[.nilf]⟩),
 (297,⟨.func #[212,212] #[212,212] false,1,8,.nilFunc,[.nilf]⟩),
 (298,⟨.func #[24,283] #[3] false,1,8,.nilFunc,[.nilf]⟩),
 (299,⟨.array 35 286,280,2240,.agg #[.string ByteArray.empty,.int .i64 0,.int .i64 0,.bool false,.bool false,.bool false,.bool false,.slice none 0 0,.string ByteArray.empty,.int .i64 0,.int .i64 0,.bool false,.bool false,.bool false,.bool false,.slice none 0 0,.string ByteArray.empty,.int .i64 0,.int .i64 0,.bool false,.bool false,.bool false,.bool false,.slice none 0 0,.string ByteArray.empty,.int .i64 0,.int .i64 0,.bool false,.bool false,.bool false,.bool false,.slice none 0 0,.string ByteArray.empty,.int .i64 0,.int .i64 0,.bool false,.bool false,.bool false,.bool false,.slice none 0 0,.string ByteArray.empty,.int .i64 0,.int .i64 0,.bool false,.bool false,.bool false,.bool false,.slice none 0 0,.string ByteArray.empty,.int .i64 0,.int .i64 0,.bool false,.bool false,.bool false,.bool false,.slice none 0 0,.string ByteArray.empty,.int .i64 0,.int .i64 0,.bool false,.bool false,.bool false,.bool false,.slice none 0 0,.string ByteArray.empty,.int .i64 0,.int .i64 0,.bool false,.bool false,.bool false,.bool false,.slice none 0 0,.string ByteArray.empty,.int .i64 0,.int .i64 0,.bool false,.bool false,.bool false,.bool false,.slice none 0 0,.string ByteArray.empty,.int .i64 0,.int .i64 0,.bool false,.bool false,.bool false,.bool false,.slice none 0 0,.string ByteArray.empty,.int .i64 0,.int .i64 0,.bool false,.bool false,.bool false,.bool false,.slice none 0 0,.string ByteArray.empty,.int .i64 0,.int .i64 0,.bool false,.bool false,.bool false,.bool false,.slice none 0 0,.string ByteArray.empty,.int .i64 0,.int .i64 0,.bool false,.bool false,.bool false,.bool false,.slice none 0 0,.string ByteArray.empty,.int .i64 0,.int .i64 0,.bool false,.bool false,.bool false,.bool false,.slice none 0 0,.string ByteArray.empty,.int .i64 0,.int .i64 0,.bool false,.bool false,.bool false,.bool false,.slice none 0 0,.string ByteArray.empty,.int .i64 0,.int .i64 0,.bool false,.bool false,.bool false,.bool false,.slice none 0 0,.string ByteArray.empty,.int .i64 0,.int .i64 0,.bool false,.bool false,.bool false,.bool false,.slice none 0 0,.string ByteArray.empty,.int .i64 0,.int .i64 0,.bool false,.bool false,.bool false,.bool false,.slice none 0 0,.string ByteArray.empty,.int .i64 0,.int .i64 0,.bool false,.bool false,.bool false,.bool false,.slice none 0 0,.string ByteArray.empty,.int .i64 0,.int .i64 0,.bool false,.bool false,.bool false,.bool false,.slice none 0 0,.string ByteArray.empty,.int .i64 0,.int .i64 0,.bool false,.bool false,.bool false,.bool false,.slice none 0 0,.string ByteArray.empty,.int .i64 0,.int .i64 0,.bool false,.bool false,.bool false,.bool false,.slice none 0 0,.string ByteArray.empty,.int .i64 0,.int .i64 0,.bool false,.bool false,.bool false,.bool false,.slice none 0 0,.string ByteArray.empty,.int .i64 0,.int .i64 0,.bool false,.bool false,.bool false,.bool false,.slice none 0 0,.string ByteArray.empty,.int .i64 0,.int .i64 0,.bool false,.bool false,.bool false,.bool false,.slice none 0 0,.string ByteArray.empty,.int .i64 0,.int .i64 0,.bool false,.bool false,.bool false,.bool false,.slice none 0 0,.string ByteArray.empty,.int .i64 0,.int .i64 0,.bool false,.bool false,.bool false,.bool false,.slice none 0 0,.string ByteArray.empty,.int .i64 0,.int .i64 0,.bool false,.bool false,.bool false,.bool false,.slice none 0 0,.string ByteArray.empty,.int .i64 0,.int .i64 0,.bool false,.bool false,.bool false,.bool false,.slice none 0 0,.string ByteArray.empty,.int .i64 0,.int .i64 0,.bool false,.bool false,.bool false,.bool false,.slice none 0 0,.string ByteArray.empty,.int .i64 0,.int .i64 0,.bool false,.bool false,.bool false,.bool false,.slice none 0 0,.string ByteArray.empty,.int .i64 0,.int .i64 0,.bool false,.bool false,.bool false,.bool false,.slice none 0 0,.string ByteArray.empty,.int .i64 0,.int .i64 0,.bool false,.bool false,.bool false,.bool false,.slice none 0 0,.string ByteArray.empty,.int .i64 0,.int .i64 0,.bool false,.bool false,.bool false,.bool false,.slice none 0 0],[.d (.str ByteArray.empty),.d (.int .i64 0),.d (.int .i64 0),.d (.bool false),.d (.bool false),.d (.bool false),.d (.bool false),.nils false 1,.d (.str ByteArray.empty),.d (.int .i64 0),.d (.int .i64 0),.d (.bool false),.d (.bool false),.d (.bool false),.d (.bool false),.nils false 1,.d (.str ByteArray.empty),.d (.int .i64 0),.d (.int .i64 0),.d (.bool false),.d (.bool false),.d (.bool false),.d (.bool false),.nils false 1,.d (.str ByteArray.empty),.d (.int .i64 0),.d (.int .i64 0),.d (.bool false),.d (.bool false),.d (.bool false),.d (.bool false),.nils false 1,.d (.str ByteArray.empty),.d (.int .i64 0),.d (.int .i64 0),.d (.bool false),.d (.bool false),.d (.bool false),.d (.bool false),.nils false 1,.d (.str ByteArray.empty),.d (.int .i64 0),.d (.int .i64 0),.d (.bool false),.d (.bool false),.d (.bool false),.d (.bool false),.nils false 1,.d (.str ByteArray.empty),.d (.int .i64 0),.d (.int .i64 0),.d (.bool false),.d (.bool false),.d (.bool false),.d (.bool false),.nils false 1,.d (.str ByteArray.empty),.d (.int .i64 0),.d (.int .i64 0),.d (.bool false),.d (.bool false),.d (.bool false),.d (.bool false),.nils false 1,.d (.str ByteArray.empty),.d (.int .i64 0),.d (.int .i64 0),.d (.bool false),.d (.bool false),.d (.bool false),.d (.bool false),.nils false 1,.d (.str ByteArray.empty),.d (.int .i64 0),.d (.int .i64 0),.d (.bool false),.d (.bool false),.d (.bool false),.d (.bool false),.nils false 1,.d (.str ByteArray.empty),.d (.int .i64 0),.d (.int .i64 0),.d (.bool false),.d (.bool false),.d (.bool false),.d (.bool false),.nils false 1,.d (.str ByteArray.empty),.d (.int .i64 0),.d (.int .i64 0),.d (.bool false),.d (.bool false),.d (.bool false),.d (.bool false),.nils false 1,.d (.str ByteArray.empty),.d (.int .i64 0),.d (.int .i64 0),.d (.bool false),.d (.bool false),.d (.bool false),.d (.bool false),.nils false 1,.d (.str ByteArray.empty),.d (.int .i64 0),.d (.int .i64 0),.d (.bool false),.d (.bool false),.d (.bool false),.d (.bool false),.nils false 1,.d (.str ByteArray.empty),.d (.int .i64 0),.d (.int .i64 0),.d (.bool false),.d (.bool false),.d (.bool false),.d (.bool false),.nils false 1,.d (.str ByteArray.empty),.d (.int .i64 0),.d (.int .i64 0),.d (.bool false),.d (.bool false),.d (.bool false),.d (.bool false),.nils false 1,.d (.str ByteArray.empty),.d (.int .i64 0),.d (.int .i64 0),.d (.bool false),.d (.bool false),.d (.bool false),.d (.bool false),.nils false 1,.d (.str ByteArray.empty),.d (.int .i64 0),.d (.int .i64 0),.d (.bool false),.d (.bool false),.d (.bool false),.d (.bool false),.nils false 1,.d (.str ByteArray.empty),.d (.int .i64 0),.d (.int .i64 0),.d (.bool false),.d (.bool false),.d (.bool false),.d (.bool false),.nils false 1,.d (.str ByteArray.empty),.d (.int .i64 0),.d (.int .i64 0),.d (.bool false),.d (.bool false),.d (.bool false),.d (.bool false),.nils false 1,.d (.str ByteArray.empty),.d (.int .i64 0),.d (.int .i64 0),.d (.bool false),.d (.bool false),.d (.bool false),.d (.bool false),.nils false 1,.d (.str ByteArray.empty),.d (.int .i64 0),.d (.int .i64 0),.d (.bool false),.d (.bool false),.d (.bool false),.d (.bool false),.nils false 1,.d (.str ByteArray.empty),.d (.int .i64 0),.d (.int .i64 0),.d (.bool false),.d (.bool false),.d (.bool false),.d (.bool false),.nils false 1,.d (.str ByteArray.empty),.d (.int .i64 0),.d (.int .i64 0),.d (.bool false),.d (.bool false),.d (.bool false),.d (.bool false),.nils false 1,.d (.str ByteArray.empty),.d (.int .i64 0),.d (.int .i64 0),.d (.bool false),.d (.bool false),.d (.bool false),.d (.bool false),.nils false 1,.d (.str ByteArray.empty),.d (.int .i64 0),.d (.int .i64 0),.d (.bool false),.d (.bool false),.d (.bool false),.d (.bool false),.nils false 1,.d (.str ByteArray.empty),.d (.int .i64 0),.d (.int .i64 0),.d (.bool false),.d (.bool false),.d (.bool false),.d (.bool false),.nils false 1,.d (.str ByteArray.empty),.d (.int .i64 0),.d (.int .i64 0),.d (.bool false),.d (.bool false),.d (.bool false),.d (.bool false),.nils false 1,.d (.str ByteArray.empty),.d (.int .i64 0),.d (.int .i64 0),.d (.bool false),.d (.bool false),.d (.bool false),.d (.bool false),.nils false 1,.d (.str ByteArray.empty),.d (.int .i64 0),.d (.int .i64 0),.d (.bool false),.d (.bool false),.d (.bool false),.d (.bool false),.nils false 1,.d (.str ByteArray.empty),.d (.int .i64 0),.d (.int .i64 0),.d (.bool false),.d (.bool false),.d (.bool false),.d (.bool false),.nils false 1,.d (.str ByteArray.empty),.d (.int .i64 0),.d (.int .i64 0),.d (.bool false),.d (.bool false),.d (.bool false),.d (.bool false),.nils false 1,.d (.str ByteArray.empty),.d (.int .i64 0),.d (.int .i64 0),.d (.bool false),.d (.bool false),.d (.bool false),.d (.bool false),.nils false 1,.d (.str ByteArray.empty),.d (.int .i64 0),.d (.int .i64 0),.d (.bool false),.d (.bool false),.d (.bool false),.d (.bool false),.nils false 1,.d (.str ByteArray.empty),.d (.int .i64 0),.d (.int .i64 0),.d (.bool false),.d (.bool false),.d (.bool false),.d (.bool false),.nils false 1]⟩),
 (300,⟨.func #[] #[299] false,1,8,.nilFunc,[.nilf]⟩),
 (301,⟨.func #[78,242] #[3] false,1,8,.nilFunc,[.nilf]⟩),
 (302,⟨.func #[40,52] #[3] false,1,8,.nilFunc,[.nilf]⟩),
 (303,⟨.array 32 5,32,32,.agg #[.int .u8 0,.int .u8 0,.int .u8 0,.int .u8 0,.int .u8 0,.int .u8 0,.int .u8 0,.int .u8 0,.int .u8 0,.int .u8 0,.int .u8 0,.int .u8 0,.int .u8 0,.int .u8 0,.int .u8 0,.int .u8 0,.int .u8 0,.int .u8 0,.int .u8 0,.int .u8 0,.int .u8 0,.int .u8 0,.int .u8 0,.int .u8 0,.int .u8 0,.int .u8 0,.int .u8 0,.int .u8 0,.int .u8 0,.int .u8 0,.int .u8 0,.int .u8 0],[.d (.int .u8 0),.d (.int .u8 0),.d (.int .u8 0),.d (.int .u8 0),.d (.int .u8 0),.d (.int .u8 0),.d (.int .u8 0),.d (.int .u8 0),.d (.int .u8 0),.d (.int .u8 0),.d (.int .u8 0),.d (.int .u8 0),.d (.int .u8 0),.d (.int .u8 0),.d (.int .u8 0),.d (.int .u8 0),.d (.int .u8 0),.d (.int .u8 0),.d (.int .u8 0),.d (.int .u8 0),.d (.int .u8 0),.d (.int .u8 0),.d (.int .u8 0),.d (.int .u8 0),.d (.int .u8 0),.d (.int .u8 0),.d (.int .u8 0),.d (.int .u8 0),.d (.int .u8 0),.d (.int .u8 0),.d (.int .u8 0),.d (.int .u8 0)]⟩)]
def Yt:List (Nat×TI):=[(304,⟨.array 64 5,64,64,.agg #[.int .u8 0,.int .u8 0,.int .u8 0,.int .u8 0,.int .u8 0,.int .u8 0,.int .u8 0,.int .u8 0,.int .u8 0,.int .u8 0,.int .u8 0,.int .u8 0,.int .u8 0,.int .u8 0,.int .u8 0,.int .u8 0,.int .u8 0,.int .u8 0,.int .u8 0,.int .u8 0,.int .u8 0,.int .u8 0,.int .u8 0,.int .u8 0,.int .u8 0,.int .u8 0,.int .u8 0,.int .u8 0,.int .u8 0,.int .u8 0,.int .u8 0,.int .u8 0,.int .u8 0,.int .u8 0,.int .u8 0,.int .u8 0,.int .u8 0,.int .u8 0,.int .u8 0,.int .u8 0,.int .u8 0,.int .u8 0,.int .u8 0,.int .u8 0,.int .u8 0,.int .u8 0,.int .u8 0,.int .u8 0,.int .u8 0,.int .u8 0,.int .u8 0,.int .u8 0,.int .u8 0,.int .u8 0,.int .u8 0,.int .u8 0,.int .u8 0,.int .u8 0,.int .u8 0,.int .u8 0,.int .u8 0,.int .u8 0,.int .u8 0,.int .u8 0],[.d (.int .u8 0),.d (.int .u8 0),.d (.int .u8 0),.d (.int .u8 0),.d (.int .u8 0),.d (.int .u8 0),.d (.int .u8 0),.d (.int .u8 0),.d (.int .u8 0),.d (.int .u8 0),.d (.int .u8 0),.d (.int .u8 0),.d (.int .u8 0),.d (.int .u8 0),.d (.int .u8 0),.d (.int .u8 0),.d (.int .u8 0),.d (.int .u8 0),.d (.int .u8 0),.d (.int .u8 0),.d (.int .u8 0),.d (.int .u8 0),.d (.int .u8 0),.d (.int .u8 0),.d (.int .u8 0),.d (.int .u8 0),.d (.int .u8 0),.d (.int .u8 0),.d (.int .u8 0),.d (.int .u8 0),.d (.int .u8 0),.d (.int .u8 0),.d (.int .u8 0),.d (.int .u8 0),.d (.int .u8 0),.d (.int .u8 0),.d (.int .u8 0),.d (.int .u8 0),.d (.int .u8 0),.d (.int .u8 0),.d (.int .u8 0),.d (.int .u8 0),.d (.int .u8 0),.d (.int .u8 0),.d (.int .u8 0),.d (.int .u8 0),.d (.int .u8 0),.d (.int .u8 0),.d (.int .u8 0),.d (.int .u8 0),.d (.int .u8 0),.d (.int .u8 0),.d (.int .u8 0),.d (.int .u8 0),.d (.int .u8 0),.d (.int .u8 0),.d (.int .u8 0),.d (.int .u8 0),.d (.int .u8 0),.d (.int .u8 0),.d (.int .u8 0),.d (.int .u8 0),.d (.int .u8 0),.d (.int .u8 0)]⟩),
 (305,⟨.func #[9] #[286] false,1,8,.nilFunc,[.nilf]⟩),
 (306,⟨.struct #[⟨"_interface",17,0,false, "", "runtime",0⟩,⟨"concrete",17,1,false, "", "runtime",8⟩,⟨"asserted",17,2,false, "", "runtime",16⟩,⟨"missingMethod",9,3,false, "", "runtime",24⟩],4,40,.agg #[.pointer none,.pointer none,.pointer none,.string ByteArray.empty],[.nilp,.nilp,.nilp,.d (.str ByteArray.empty)]⟩),
 (307,⟨.struct #[⟨"_interface",17,0,false, "", "runtime",0⟩,⟨"concrete",17,1,false, "", "runtime",8⟩,⟨"asserted",17,2,false, "", "runtime",16⟩,⟨"missingMethod",9,3,false, "", "runtime",24⟩],4,40,.agg #[.pointer none,.pointer none,.pointer none,.string ByteArray.empty],[.nilp,.nilp,.nilp,.d (.str ByteArray.empty)]⟩),
 (311,⟨.int .u8,1,1,.int .u8 0,[.d (.int .u8 0)]⟩),
 (312,⟨.int .u8,1,1,.int .u8 0,[.d (.int .u8 0)]⟩),
 (313,⟨.func #[266,266] #[4] false,1,8,.nilFunc,[.nilf]⟩),
 (314,⟨.int .i32,1,4,.int .i32 0,[.d (.int .i32 0)]⟩),
 (315,⟨.int .i32,1,4,.int .i32 0,[.d (.int .i32 0)]⟩),
 (316,⟨.struct #[⟨"Size_",12,0,false, "", "",0⟩,⟨"PtrBytes",12,1,false, "", "",8⟩,⟨"Hash",262,2,false, "", "",16⟩,⟨"TFlag",311,3,false, "", "",20⟩,⟨"Align_",5,4,false, "", "",21⟩,⟨"FieldAlign_",5,5,false, "", "",22⟩,⟨"Kind_",312,6,false, "", "",23⟩,⟨"Equal",313,7,false, "", "",24⟩,⟨"GCData",217,8,false, "", "",32⟩,⟨"Str",314,9,false, "", "",40⟩,⟨"PtrToThis",315,10,false, "", "",44⟩],11,48,.agg #[.int .u64 0,.int .u64 0,.int .u32 0,.int .u8 0,.int .u8 0,.int .u8 0,.int .u8 0,.nilFunc,.pointer none,.int .i32 0,.int .i32 0],[.d (.int .u64 0),.d (.int .u64 0),.d (.int .u32 0),.d (.int .u8 0),.d (.int .u8 0),.d (.int .u8 0),.d (.int .u8 0),.nilf,.nilp,.d (.int .i32 0),.d (.int .i32 0)]⟩),
 (317,⟨.struct #[⟨"Size_",12,0,false, "", "",0⟩,⟨"PtrBytes",12,1,false, "", "",8⟩,⟨"Hash",262,2,false, "", "",16⟩,⟨"TFlag",311,3,false, "", "",20⟩,⟨"Align_",5,4,false, "", "",21⟩,⟨"FieldAlign_",5,5,false, "", "",22⟩,⟨"Kind_",312,6,false, "", "",23⟩,⟨"Equal",313,7,false, "", "",24⟩,⟨"GCData",217,8,false, "", "",32⟩,⟨"Str",314,9,false, "", "",40⟩,⟨"PtrToThis",315,10,false, "", "",44⟩],11,48,.agg #[.int .u64 0,.int .u64 0,.int .u32 0,.int .u8 0,.int .u8 0,.int .u8 0,.int .u8 0,.nilFunc,.pointer none,.int .i32 0,.int .i32 0],[.d (.int .u64 0),.d (.int .u64 0),.d (.int .u32 0),.d (.int .u8 0),.d (.int .u8 0),.d (.int .u8 0),.d (.int .u8 0),.nilf,.nilp,.d (.int .i32 0),.d (.int .i32 0)]⟩),
 (318,⟨.slice 322,1,24,.slice none 0 0,[.nils true 3]⟩),
 (319,⟨.struct #[⟨"Op",5,0,false, "", "",0⟩,⟨"Name",9,1,false, "", "",8⟩,⟨"Second",9,2,false, "", "",24⟩,⟨"Names",78,3,false, "", "",40⟩,⟨"Type",248,4,false, "", "",64⟩,⟨"Int",2,7,false, "", "",112⟩,⟨"Place",251,8,false, "", "",120⟩,⟨"Exprs",252,10,false, "", "",160⟩,⟨"Body",249,11,false, "", "",184⟩,⟨"Else",249,12,false, "", "",208⟩,⟨"Arms",318,13,false, "", "",232⟩,⟨"At",3,14,false, "", "",256⟩],15,264,.agg #[.int .u8 0,.string ByteArray.empty,.string ByteArray.empty,.slice none 0 0,.int .u8 0,.string ByteArray.empty,.slice none 0 0,.int .i64 0,.string ByteArray.empty,.slice none 0 0,.slice none 0 0,.slice none 0 0,.slice none 0 0,.slice none 0 0,.int .i64 0],[.d (.int .u8 0),.d (.str ByteArray.empty),.d (.str ByteArray.empty),.nils false 1,.d (.int .u8 0),.d (.str ByteArray.empty),.nils true 3,.d (.int .i64 0),.d (.str ByteArray.empty),.nils false 1,.nils true 8,.nils true 15,.nils true 15,.nils true 3,.d (.int .i64 0)]⟩)]
def Yu:List (Nat×TI):=[(320,⟨.struct #[⟨"Op",5,0,false, "", "",0⟩,⟨"Name",9,1,false, "", "",8⟩,⟨"Second",9,2,false, "", "",24⟩,⟨"Names",78,3,false, "", "",40⟩,⟨"Type",248,4,false, "", "",64⟩,⟨"Int",2,7,false, "", "",112⟩,⟨"Place",251,8,false, "", "",120⟩,⟨"Exprs",252,10,false, "", "",160⟩,⟨"Body",249,11,false, "", "",184⟩,⟨"Else",249,12,false, "", "",208⟩,⟨"Arms",318,13,false, "", "",232⟩,⟨"At",3,14,false, "", "",256⟩],15,264,.agg #[.int .u8 0,.string ByteArray.empty,.string ByteArray.empty,.slice none 0 0,.int .u8 0,.string ByteArray.empty,.slice none 0 0,.int .i64 0,.string ByteArray.empty,.slice none 0 0,.slice none 0 0,.slice none 0 0,.slice none 0 0,.slice none 0 0,.int .i64 0],[.d (.int .u8 0),.d (.str ByteArray.empty),.d (.str ByteArray.empty),.nils false 1,.d (.int .u8 0),.d (.str ByteArray.empty),.nils true 3,.d (.int .i64 0),.d (.str ByteArray.empty),.nils false 1,.nils true 8,.nils true 15,.nils true 15,.nils true 3,.d (.int .i64 0)]⟩),
 (321,⟨.struct #[⟨"Variant",9,0,false, "", "",0⟩,⟨"Name",9,1,false, "", "",16⟩,⟨"Body",249,2,false, "", "",32⟩],3,56,.agg #[.string ByteArray.empty,.string ByteArray.empty,.slice none 0 0],[.d (.str ByteArray.empty),.d (.str ByteArray.empty),.nils true 15]⟩),
 (322,⟨.struct #[⟨"Variant",9,0,false, "", "",0⟩,⟨"Name",9,1,false, "", "",16⟩,⟨"Body",249,2,false, "", "",32⟩],3,56,.agg #[.string ByteArray.empty,.string ByteArray.empty,.slice none 0 0],[.d (.str ByteArray.empty),.d (.str ByteArray.empty),.nils true 15]⟩)]
def Yv:List (List (Nat×TI)):=[eT,eU,eV,eW,eX,eY,eZ,fA,fB,fC,Yk,Yl,Ym,Yn,Yo,Yp,Yq,Yr,Ys,Yt,Yu]
def US:Types:=Vy Yv
theorem kW:BV Tryz.prog eT:=⟨⟨by kernel_rfl,by kernel_rfl,by kernel_rfl⟩,⟨by kernel_rfl,by kernel_rfl,by kernel_rfl⟩,⟨by kernel_rfl,by kernel_rfl,by kernel_rfl⟩,⟨by kernel_rfl,by kernel_rfl,by kernel_rfl⟩,⟨by kernel_rfl,by kernel_rfl,by kernel_rfl⟩,⟨by kernel_rfl,by kernel_rfl,by kernel_rfl⟩,⟨by kernel_rfl,by kernel_rfl,by kernel_rfl⟩,⟨by kernel_rfl,by kernel_rfl,by kernel_rfl⟩,⟨by kernel_rfl,by kernel_rfl,by kernel_rfl⟩,⟨by kernel_rfl,by kernel_rfl,by kernel_rfl⟩,⟨by kernel_rfl,by kernel_rfl,by kernel_rfl⟩,⟨by kernel_rfl,by kernel_rfl,by kernel_rfl⟩,⟨by kernel_rfl,by kernel_rfl,by kernel_rfl⟩,⟨by kernel_rfl,by kernel_rfl,by kernel_rfl⟩,⟨by kernel_rfl,by kernel_rfl,by kernel_rfl⟩,trivial⟩
theorem kX:BV Tryz.prog eU:=⟨⟨by kernel_rfl,by kernel_rfl,by kernel_rfl⟩,⟨by kernel_rfl,by kernel_rfl,by kernel_rfl⟩,⟨by kernel_rfl,by kernel_rfl,by kernel_rfl⟩,⟨by kernel_rfl,by kernel_rfl,by kernel_rfl⟩,⟨by kernel_rfl,by kernel_rfl,by kernel_rfl⟩,⟨by kernel_rfl,by kernel_rfl,by kernel_rfl⟩,⟨by kernel_rfl,by kernel_rfl,by kernel_rfl⟩,⟨by kernel_rfl,by kernel_rfl,by kernel_rfl⟩,⟨by kernel_rfl,by kernel_rfl,by kernel_rfl⟩,⟨by kernel_rfl,by kernel_rfl,by kernel_rfl⟩,⟨by kernel_rfl,by kernel_rfl,by kernel_rfl⟩,⟨by kernel_rfl,by kernel_rfl,by kernel_rfl⟩,⟨by kernel_rfl,by kernel_rfl,by kernel_rfl⟩,⟨by kernel_rfl,by kernel_rfl,by kernel_rfl⟩,⟨by kernel_rfl,by kernel_rfl,by kernel_rfl⟩,⟨by kernel_rfl,by kernel_rfl,by kernel_rfl⟩,trivial⟩
theorem kY:BV Tryz.prog eV:=⟨⟨by kernel_rfl,by kernel_rfl,by kernel_rfl⟩,⟨by kernel_rfl,by kernel_rfl,by kernel_rfl⟩,⟨by kernel_rfl,by kernel_rfl,by kernel_rfl⟩,⟨by kernel_rfl,by kernel_rfl,by kernel_rfl⟩,⟨by kernel_rfl,by kernel_rfl,by kernel_rfl⟩,⟨by kernel_rfl,by kernel_rfl,by kernel_rfl⟩,⟨by kernel_rfl,by kernel_rfl,by kernel_rfl⟩,⟨by kernel_rfl,by kernel_rfl,by kernel_rfl⟩,⟨by kernel_rfl,by kernel_rfl,by kernel_rfl⟩,⟨by kernel_rfl,by kernel_rfl,by kernel_rfl⟩,⟨by kernel_rfl,by kernel_rfl,by kernel_rfl⟩,⟨by kernel_rfl,by kernel_rfl,by kernel_rfl⟩,⟨by kernel_rfl,by kernel_rfl,by kernel_rfl⟩,⟨by kernel_rfl,by kernel_rfl,by kernel_rfl⟩,trivial⟩
theorem kZ:BV Tryz.prog eW:=⟨⟨by kernel_rfl,by kernel_rfl,by kernel_rfl⟩,⟨by kernel_rfl,by kernel_rfl,by kernel_rfl⟩,⟨by kernel_rfl,by kernel_rfl,by kernel_rfl⟩,⟨by kernel_rfl,by kernel_rfl,by kernel_rfl⟩,⟨by kernel_rfl,by kernel_rfl,by kernel_rfl⟩,⟨by kernel_rfl,by kernel_rfl,by kernel_rfl⟩,⟨by kernel_rfl,by kernel_rfl,by kernel_rfl⟩,⟨by kernel_rfl,by kernel_rfl,by kernel_rfl⟩,⟨by kernel_rfl,by kernel_rfl,by kernel_rfl⟩,⟨by kernel_rfl,by kernel_rfl,by kernel_rfl⟩,⟨by kernel_rfl,by kernel_rfl,by kernel_rfl⟩,⟨by kernel_rfl,by kernel_rfl,by kernel_rfl⟩,⟨by kernel_rfl,by kernel_rfl,by kernel_rfl⟩,⟨by kernel_rfl,by kernel_rfl,by kernel_rfl⟩,⟨by kernel_rfl,by kernel_rfl,by kernel_rfl⟩,⟨by kernel_rfl,by kernel_rfl,by kernel_rfl⟩,trivial⟩
theorem lA:BV Tryz.prog eX:=⟨⟨by kernel_rfl,by kernel_rfl,by kernel_rfl⟩,⟨by kernel_rfl,by kernel_rfl,by kernel_rfl⟩,⟨by kernel_rfl,by kernel_rfl,by kernel_rfl⟩,⟨by kernel_rfl,by kernel_rfl,by kernel_rfl⟩,⟨by kernel_rfl,by kernel_rfl,by kernel_rfl⟩,⟨by kernel_rfl,by kernel_rfl,by kernel_rfl⟩,⟨by kernel_rfl,by kernel_rfl,by kernel_rfl⟩,⟨by kernel_rfl,by kernel_rfl,by kernel_rfl⟩,⟨by kernel_rfl,by kernel_rfl,by kernel_rfl⟩,⟨by kernel_rfl,by kernel_rfl,by kernel_rfl⟩,⟨by kernel_rfl,by kernel_rfl,by kernel_rfl⟩,⟨by kernel_rfl,by kernel_rfl,by kernel_rfl⟩,⟨by kernel_rfl,by kernel_rfl,by kernel_rfl⟩,⟨by kernel_rfl,by kernel_rfl,by kernel_rfl⟩,⟨by kernel_rfl,by kernel_rfl,by kernel_rfl⟩,⟨by kernel_rfl,by kernel_rfl,by kernel_rfl⟩,trivial⟩
theorem lB:BV Tryz.prog eY:=⟨⟨by kernel_rfl,by kernel_rfl,by kernel_rfl⟩,⟨by kernel_rfl,by kernel_rfl,by kernel_rfl⟩,⟨by kernel_rfl,by kernel_rfl,by kernel_rfl⟩,⟨by kernel_rfl,by kernel_rfl,by kernel_rfl⟩,⟨by kernel_rfl,by kernel_rfl,by kernel_rfl⟩,⟨by kernel_rfl,by kernel_rfl,by kernel_rfl⟩,⟨by kernel_rfl,by kernel_rfl,by kernel_rfl⟩,⟨by kernel_rfl,by kernel_rfl,by kernel_rfl⟩,⟨by kernel_rfl,by kernel_rfl,by kernel_rfl⟩,⟨by kernel_rfl,by kernel_rfl,by kernel_rfl⟩,⟨by kernel_rfl,by kernel_rfl,by kernel_rfl⟩,⟨by kernel_rfl,by kernel_rfl,by kernel_rfl⟩,⟨by kernel_rfl,by kernel_rfl,by kernel_rfl⟩,⟨by kernel_rfl,by kernel_rfl,by kernel_rfl⟩,⟨by kernel_rfl,by kernel_rfl,by kernel_rfl⟩,⟨by kernel_rfl,by kernel_rfl,by kernel_rfl⟩,trivial⟩
theorem lC:BV Tryz.prog eZ:=⟨⟨by kernel_rfl,by kernel_rfl,by kernel_rfl⟩,⟨by kernel_rfl,by kernel_rfl,by kernel_rfl⟩,⟨by kernel_rfl,by kernel_rfl,by kernel_rfl⟩,⟨by kernel_rfl,by kernel_rfl,by kernel_rfl⟩,⟨by kernel_rfl,by kernel_rfl,by kernel_rfl⟩,⟨by kernel_rfl,by kernel_rfl,by kernel_rfl⟩,⟨by kernel_rfl,by kernel_rfl,by kernel_rfl⟩,⟨by kernel_rfl,by kernel_rfl,by kernel_rfl⟩,⟨by kernel_rfl,by kernel_rfl,by kernel_rfl⟩,⟨by kernel_rfl,by kernel_rfl,by kernel_rfl⟩,⟨by kernel_rfl,by kernel_rfl,by kernel_rfl⟩,⟨by kernel_rfl,by kernel_rfl,by kernel_rfl⟩,⟨by kernel_rfl,by kernel_rfl,by kernel_rfl⟩,⟨by kernel_rfl,by kernel_rfl,by kernel_rfl⟩,⟨by kernel_rfl,by kernel_rfl,by kernel_rfl⟩,trivial⟩
theorem lD:BV Tryz.prog fA:=⟨⟨by kernel_rfl,by kernel_rfl,by kernel_rfl⟩,⟨by kernel_rfl,by kernel_rfl,by kernel_rfl⟩,⟨by kernel_rfl,by kernel_rfl,by kernel_rfl⟩,⟨by kernel_rfl,by kernel_rfl,by kernel_rfl⟩,⟨by kernel_rfl,by kernel_rfl,by kernel_rfl⟩,⟨by kernel_rfl,by kernel_rfl,by kernel_rfl⟩,⟨by kernel_rfl,by kernel_rfl,by kernel_rfl⟩,⟨by kernel_rfl,by kernel_rfl,by kernel_rfl⟩,⟨by kernel_rfl,by kernel_rfl,by kernel_rfl⟩,⟨by kernel_rfl,by kernel_rfl,by kernel_rfl⟩,⟨by kernel_rfl,by kernel_rfl,by kernel_rfl⟩,⟨by kernel_rfl,by kernel_rfl,by kernel_rfl⟩,⟨by kernel_rfl,by kernel_rfl,by kernel_rfl⟩,⟨by kernel_rfl,by kernel_rfl,by kernel_rfl⟩,⟨by kernel_rfl,by kernel_rfl,by kernel_rfl⟩,trivial⟩
theorem lF:BV Tryz.prog fB:=⟨⟨by kernel_rfl,by kernel_rfl,by kernel_rfl⟩,⟨by kernel_rfl,by kernel_rfl,by kernel_rfl⟩,⟨by kernel_rfl,by kernel_rfl,by kernel_rfl⟩,⟨by kernel_rfl,by kernel_rfl,by kernel_rfl⟩,⟨by kernel_rfl,by kernel_rfl,by kernel_rfl⟩,⟨by kernel_rfl,by kernel_rfl,by kernel_rfl⟩,⟨by kernel_rfl,by kernel_rfl,by kernel_rfl⟩,⟨by kernel_rfl,by kernel_rfl,by kernel_rfl⟩,⟨by kernel_rfl,by kernel_rfl,by kernel_rfl⟩,⟨by kernel_rfl,by kernel_rfl,by kernel_rfl⟩,⟨by kernel_rfl,by kernel_rfl,by kernel_rfl⟩,trivial⟩
theorem lG:BV Tryz.prog fC:=⟨⟨by kernel_rfl,by kernel_rfl,by kernel_rfl⟩,⟨by kernel_rfl,by kernel_rfl,by kernel_rfl⟩,⟨by kernel_rfl,by kernel_rfl,by kernel_rfl⟩,⟨by kernel_rfl,by kernel_rfl,by kernel_rfl⟩,⟨by kernel_rfl,by kernel_rfl,by kernel_rfl⟩,⟨by kernel_rfl,by kernel_rfl,by kernel_rfl⟩,⟨by kernel_rfl,by kernel_rfl,by kernel_rfl⟩,⟨by kernel_rfl,by kernel_rfl,by kernel_rfl⟩,⟨by kernel_rfl,by kernel_rfl,by kernel_rfl⟩,⟨by kernel_rfl,by kernel_rfl,by kernel_rfl⟩,⟨by kernel_rfl,by kernel_rfl,by kernel_rfl⟩,⟨by kernel_rfl,by kernel_rfl,by kernel_rfl⟩,⟨by kernel_rfl,by kernel_rfl,by kernel_rfl⟩,trivial⟩
theorem hJ:BV Tryz.prog Yk:=⟨⟨by kernel_rfl,by kernel_rfl,by kernel_rfl⟩,⟨by kernel_rfl,by kernel_rfl,by kernel_rfl⟩,⟨by kernel_rfl,by kernel_rfl,by kernel_rfl⟩,⟨by kernel_rfl,by kernel_rfl,by kernel_rfl⟩,⟨by kernel_rfl,by kernel_rfl,by kernel_rfl⟩,⟨by kernel_rfl,by kernel_rfl,by kernel_rfl⟩,⟨by kernel_rfl,by kernel_rfl,by kernel_rfl⟩,⟨by kernel_rfl,by kernel_rfl,by kernel_rfl⟩,⟨by kernel_rfl,by kernel_rfl,by kernel_rfl⟩,⟨by kernel_rfl,by kernel_rfl,by kernel_rfl⟩,⟨by kernel_rfl,by kernel_rfl,by kernel_rfl⟩,⟨by kernel_rfl,by kernel_rfl,by kernel_rfl⟩,⟨by kernel_rfl,by kernel_rfl,by kernel_rfl⟩,⟨by kernel_rfl,by kernel_rfl,by kernel_rfl⟩,⟨by kernel_rfl,by kernel_rfl,by kernel_rfl⟩,trivial⟩
theorem hY:BV Tryz.prog Yl:=⟨⟨by kernel_rfl,by kernel_rfl,by kernel_rfl⟩,⟨by kernel_rfl,by kernel_rfl,by kernel_rfl⟩,⟨by kernel_rfl,by kernel_rfl,by kernel_rfl⟩,⟨by kernel_rfl,by kernel_rfl,by kernel_rfl⟩,⟨by kernel_rfl,by kernel_rfl,by kernel_rfl⟩,⟨by kernel_rfl,by kernel_rfl,by kernel_rfl⟩,⟨by kernel_rfl,by kernel_rfl,by kernel_rfl⟩,⟨by kernel_rfl,by kernel_rfl,by kernel_rfl⟩,⟨by kernel_rfl,by kernel_rfl,by kernel_rfl⟩,⟨by kernel_rfl,by kernel_rfl,by kernel_rfl⟩,⟨by kernel_rfl,by kernel_rfl,by kernel_rfl⟩,⟨by kernel_rfl,by kernel_rfl,by kernel_rfl⟩,⟨by kernel_rfl,by kernel_rfl,by kernel_rfl⟩,⟨by kernel_rfl,by kernel_rfl,by kernel_rfl⟩,⟨by kernel_rfl,by kernel_rfl,by kernel_rfl⟩,⟨by kernel_rfl,by kernel_rfl,by kernel_rfl⟩,trivial⟩
theorem iA:BV Tryz.prog Ym:=⟨⟨by kernel_rfl,by kernel_rfl,by kernel_rfl⟩,⟨by kernel_rfl,by kernel_rfl,by kernel_rfl⟩,⟨by kernel_rfl,by kernel_rfl,by kernel_rfl⟩,⟨by kernel_rfl,by kernel_rfl,by kernel_rfl⟩,⟨by kernel_rfl,by kernel_rfl,by kernel_rfl⟩,⟨by kernel_rfl,by kernel_rfl,by kernel_rfl⟩,⟨by kernel_rfl,by kernel_rfl,by kernel_rfl⟩,⟨by kernel_rfl,by kernel_rfl,by kernel_rfl⟩,⟨by kernel_rfl,by kernel_rfl,by kernel_rfl⟩,⟨by kernel_rfl,by kernel_rfl,by kernel_rfl⟩,⟨by kernel_rfl,by kernel_rfl,by kernel_rfl⟩,⟨by kernel_rfl,by kernel_rfl,by kernel_rfl⟩,⟨by kernel_rfl,by kernel_rfl,by kernel_rfl⟩,⟨by kernel_rfl,by kernel_rfl,by kernel_rfl⟩,⟨by kernel_rfl,by kernel_rfl,by kernel_rfl⟩,trivial⟩
theorem iB:BV Tryz.prog Yn:=⟨⟨by kernel_rfl,by kernel_rfl,by kernel_rfl⟩,⟨by kernel_rfl,by kernel_rfl,by kernel_rfl⟩,⟨by kernel_rfl,by kernel_rfl,by kernel_rfl⟩,⟨by kernel_rfl,by kernel_rfl,by kernel_rfl⟩,⟨by kernel_rfl,by kernel_rfl,by kernel_rfl⟩,⟨by kernel_rfl,by kernel_rfl,by kernel_rfl⟩,⟨by kernel_rfl,by kernel_rfl,by kernel_rfl⟩,⟨by kernel_rfl,by kernel_rfl,by kernel_rfl⟩,⟨by kernel_rfl,by kernel_rfl,by kernel_rfl⟩,⟨by kernel_rfl,by kernel_rfl,by kernel_rfl⟩,⟨by kernel_rfl,by kernel_rfl,by kernel_rfl⟩,⟨by kernel_rfl,by kernel_rfl,by kernel_rfl⟩,⟨by kernel_rfl,by kernel_rfl,by kernel_rfl⟩,⟨by kernel_rfl,by kernel_rfl,by kernel_rfl⟩,⟨by kernel_rfl,by kernel_rfl,by kernel_rfl⟩,trivial⟩
theorem iC:BV Tryz.prog Yo:=⟨⟨by kernel_rfl,by kernel_rfl,by kernel_rfl⟩,⟨by kernel_rfl,by kernel_rfl,by kernel_rfl⟩,⟨by kernel_rfl,by kernel_rfl,by kernel_rfl⟩,⟨by kernel_rfl,by kernel_rfl,by kernel_rfl⟩,⟨by kernel_rfl,by kernel_rfl,by kernel_rfl⟩,⟨by kernel_rfl,by kernel_rfl,by kernel_rfl⟩,⟨by kernel_rfl,by kernel_rfl,by kernel_rfl⟩,⟨by kernel_rfl,by kernel_rfl,by kernel_rfl⟩,⟨by kernel_rfl,by kernel_rfl,by kernel_rfl⟩,⟨by kernel_rfl,by kernel_rfl,by kernel_rfl⟩,⟨by kernel_rfl,by kernel_rfl,by kernel_rfl⟩,⟨by kernel_rfl,by kernel_rfl,by kernel_rfl⟩,⟨by kernel_rfl,by kernel_rfl,by kernel_rfl⟩,⟨by kernel_rfl,by kernel_rfl,by kernel_rfl⟩,⟨by kernel_rfl,by kernel_rfl,by kernel_rfl⟩,trivial⟩
theorem iE:BV Tryz.prog Yp:=⟨⟨by kernel_rfl,by kernel_rfl,by kernel_rfl⟩,⟨by kernel_rfl,by kernel_rfl,by kernel_rfl⟩,⟨by kernel_rfl,by kernel_rfl,by kernel_rfl⟩,⟨by kernel_rfl,by kernel_rfl,by kernel_rfl⟩,⟨by kernel_rfl,by kernel_rfl,by kernel_rfl⟩,⟨by kernel_rfl,by kernel_rfl,by kernel_rfl⟩,⟨by kernel_rfl,by kernel_rfl,by kernel_rfl⟩,⟨by kernel_rfl,by kernel_rfl,by kernel_rfl⟩,⟨by kernel_rfl,by kernel_rfl,by kernel_rfl⟩,⟨by kernel_rfl,by kernel_rfl,by kernel_rfl⟩,⟨by kernel_rfl,by kernel_rfl,by kernel_rfl⟩,⟨by kernel_rfl,by kernel_rfl,by kernel_rfl⟩,⟨by kernel_rfl,by kernel_rfl,by kernel_rfl⟩,⟨by kernel_rfl,by kernel_rfl,by kernel_rfl⟩,⟨by kernel_rfl,by kernel_rfl,by kernel_rfl⟩,trivial⟩
theorem iG:BV Tryz.prog Yq:=⟨⟨by kernel_rfl,by kernel_rfl,by kernel_rfl⟩,⟨by kernel_rfl,by kernel_rfl,by kernel_rfl⟩,⟨by kernel_rfl,by kernel_rfl,by kernel_rfl⟩,⟨by kernel_rfl,by kernel_rfl,by kernel_rfl⟩,⟨by kernel_rfl,by kernel_rfl,by kernel_rfl⟩,⟨by kernel_rfl,by kernel_rfl,by kernel_rfl⟩,⟨by kernel_rfl,by kernel_rfl,by kernel_rfl⟩,⟨by kernel_rfl,by kernel_rfl,by kernel_rfl⟩,⟨by kernel_rfl,by kernel_rfl,by kernel_rfl⟩,⟨by kernel_rfl,by kernel_rfl,by kernel_rfl⟩,⟨by kernel_rfl,by kernel_rfl,by kernel_rfl⟩,⟨by kernel_rfl,by kernel_rfl,by kernel_rfl⟩,⟨by kernel_rfl,by kernel_rfl,by kernel_rfl⟩,⟨by kernel_rfl,by kernel_rfl,by kernel_rfl⟩,trivial⟩
theorem iH:BV Tryz.prog Yr:=⟨⟨by kernel_rfl,by kernel_rfl,by kernel_rfl⟩,⟨by kernel_rfl,by kernel_rfl,by kernel_rfl⟩,⟨by kernel_rfl,by kernel_rfl,by kernel_rfl⟩,⟨by kernel_rfl,by kernel_rfl,by kernel_rfl⟩,⟨by kernel_rfl,by kernel_rfl,by kernel_rfl⟩,⟨by kernel_rfl,by kernel_rfl,by kernel_rfl⟩,⟨by kernel_rfl,by kernel_rfl,by kernel_rfl⟩,⟨by kernel_rfl,by kernel_rfl,by kernel_rfl⟩,⟨by kernel_rfl,by kernel_rfl,by kernel_rfl⟩,⟨by kernel_rfl,by kernel_rfl,by kernel_rfl⟩,⟨by kernel_rfl,by kernel_rfl,by kernel_rfl⟩,⟨by kernel_rfl,by kernel_rfl,by kernel_rfl⟩,⟨by kernel_rfl,by kernel_rfl,by kernel_rfl⟩,⟨by kernel_rfl,by kernel_rfl,by kernel_rfl⟩,trivial⟩
theorem iI:BV Tryz.prog Ys:=⟨⟨by kernel_rfl,by kernel_rfl,by kernel_rfl⟩,⟨by kernel_rfl,by kernel_rfl,by kernel_rfl⟩,⟨by kernel_rfl,by kernel_rfl,by kernel_rfl⟩,⟨by kernel_rfl,by kernel_rfl,by kernel_rfl⟩,⟨by kernel_rfl,by kernel_rfl,by kernel_rfl⟩,⟨by kernel_rfl,by kernel_rfl,by kernel_rfl⟩,⟨by kernel_rfl,by kernel_rfl,by kernel_rfl⟩,⟨by kernel_rfl,by kernel_rfl,by kernel_rfl⟩,⟨by kernel_rfl,by kernel_rfl,by kernel_rfl⟩,⟨by kernel_rfl,by kernel_rfl,by kernel_rfl⟩,⟨by kernel_rfl,by kernel_rfl,by kernel_rfl⟩,⟨by kernel_rfl,by kernel_rfl,by kernel_rfl⟩,⟨by kernel_rfl,by kernel_rfl,by kernel_rfl⟩,⟨by kernel_rfl,by kernel_rfl,by kernel_rfl⟩,⟨by kernel_rfl,by kernel_rfl,by kernel_rfl⟩,trivial⟩
theorem iJ:BV Tryz.prog Yt:=⟨⟨by kernel_rfl,by kernel_rfl,by kernel_rfl⟩,⟨by kernel_rfl,by kernel_rfl,by kernel_rfl⟩,⟨by kernel_rfl,by kernel_rfl,by kernel_rfl⟩,⟨by kernel_rfl,by kernel_rfl,by kernel_rfl⟩,⟨by kernel_rfl,by kernel_rfl,by kernel_rfl⟩,⟨by kernel_rfl,by kernel_rfl,by kernel_rfl⟩,⟨by kernel_rfl,by kernel_rfl,by kernel_rfl⟩,⟨by kernel_rfl,by kernel_rfl,by kernel_rfl⟩,⟨by kernel_rfl,by kernel_rfl,by kernel_rfl⟩,⟨by kernel_rfl,by kernel_rfl,by kernel_rfl⟩,⟨by kernel_rfl,by kernel_rfl,by kernel_rfl⟩,⟨by kernel_rfl,by kernel_rfl,by kernel_rfl⟩,⟨by kernel_rfl,by kernel_rfl,by kernel_rfl⟩,trivial⟩
theorem iK:BV Tryz.prog Yu:=⟨⟨by kernel_rfl,by kernel_rfl,by kernel_rfl⟩,⟨by kernel_rfl,by kernel_rfl,by kernel_rfl⟩,⟨by kernel_rfl,by kernel_rfl,by kernel_rfl⟩,trivial⟩
theorem Vz:Ge Tryz.prog Yv:=⟨kW,kX,kY,kZ,lA,lB,lC,lD,lF,lG,hJ,hY,iA,iB,iC,iE,iG,iH,iI,iJ,iK,trivial⟩
theorem Dp:Ao Tryz.prog US:=Yj Vz
theorem DE:BB US:=W9 Vz
end Go.Proofs.YtaomkgkdfafiiaaGreatDoor
namespace Go.AM
open Go Go.RowKit
def Hh (acc:List Nat):List Edge→Nat
 | []=>0
 | e::r=>match Region.binds .any e with
  | true=>Nat.lor (Nat.lor (2 ^ e.on) (acc.getD e.on 0)) (Hh acc r)
  | false=>Hh acc r
def Nr:List Oper→List Nat→List Nat
 | [],acc=>acc
 | o::r,acc=>Nr r (acc++[Hh acc o.after.toList])
inductive Cv (ops:List Oper):Nat→Nat→Prop where
 | edge {i j:Nat} {o:Oper} {e:Edge} (hj:ops[j]?=some o) (he:e∈o.after.toList) (hb:Region.binds .any e=true) (hi:e.on=i):Cv ops i j
 | trans {i j k:Nat} (h1:Cv ops i j) (h2:Cv ops j k):Cv ops i k
theorem Ns {ops:List Oper}{acc:List Nat}{j:Nat}{o:Oper}(hj:ops[j]?=some o) (hacc:∀k i,(acc.getD k 0).testBit i=true→Cv ops i k):
  ∀(l:List Edge),(∀e∈l,e∈o.after.toList)→∀i,(Hh acc l).testBit i=true→Cv ops i j
 | [],_,i,h=>by simp[Hh]at h
 | e::r,hl,i,h=>by
  have ih:=Ns hj hacc r (fun e he=>hl e (List.mem_cons_of_mem _ he)) i
  unfold Hh at h
  split at h
  ·rename_i hb
   rw[show ∀a b:Nat,Nat.lor a b=a ||| b from fun _ _=>rfl,show ∀a b:Nat,Nat.lor a b=a ||| b from fun _ _=>rfl]at h
   simp only[Nat.testBit_or,Bool.or_eq_true,Nat.testBit_two_pow,decide_eq_true_eq]at h
   rcases h with (h | h) | h
   ·exact .edge hj (hl e (by simp)) hb h
   ·exact .trans (hacc _ i h) (.edge hj (hl e (by simp)) hb rfl)
   ·exact ih h
  ·exact ih h
theorem LF {ops:List Oper}:∀(l:List Oper) (acc:List Nat),ops.drop acc.length=l→(∀k i,(acc.getD k 0).testBit i=true→Cv ops i k)→
  ∀k i,((Nr l acc).getD k 0).testBit i=true→Cv ops i k
 | [],acc,_,hacc,k,i,h=>hacc k i h
 | o::r,acc,hl,hacc,k,i,h=>by
  have hj:ops[acc.length]?=some o:=by
   have:=congrArg (fun l=>l[0]?) hl
   simpa using this
  refine LF r (acc++[Hh acc o.after.toList]) ?_ ?_ k i h
  ·have:=congrArg List.tail hl
   simpa using this
  ·intro k i hk
   by_cases h1:k<acc.length
   ·refine hacc k i ?_
    simpa [List.getD,List.getElem?_append_left h1] using hk
   ·by_cases h2:k=acc.length
    ·subst h2
     refine Ns hj hacc o.after.toList (fun e he=>he) i ?_
     simpa [List.getD] using hk
    ·have:(acc++[Hh acc o.after.toList])[k]?=none:=by simp;omega
     simp[List.getD,this]at hk
def tmpsOf:List Operand→List Nat
 | []=>[]
 | .tmp t::r=>t::tmpsOf r
 | _::r=>tmpsOf r
def C0 (ops:Array Oper) (o:Oper):List Nat:=
 tmpsOf o.op.operands.toList++(match o.guard with
  | some (j,_)=>((ops[j]?).bind (·.dst)).toList
  | none=>[])
def meet (a b:List Nat):Bool:=a.any fun x=>b.any fun y=>Nat.beq x y
def TJ (a b:List Id):Bool:=a.any fun x=>b.any fun y=>Id.beq x y
def CA (ops:Array Oper) (a b:Oper):Bool:=
 meet a.dst.toList (C0 ops b) || meet a.dst.toList b.dst.toList || meet (C0 ops a) b.dst.toList
abbrev Fp:=List Id×List Id
def Dq (a b:Fp):Bool:=TJ a.2 b.1 || TJ a.2 b.2 || TJ a.1 b.2
def Mc (ops:Array Oper) (ms:List Nat) (l:List (Nat×Oper×Fp)):Bool:=
 l.all fun x=>l.all fun y=>!(Nat.blt x.1 y.1) || !(CA ops x.2.1 y.2.1 || Dq x.2.2 y.2.2) || (ms.getD y.1 0).testBit x.1
def LG:List Oper→Nat→Bool
 | [],_=>true
 | o::r,i=>o.after.toList.all (fun e=>!(Region.binds .any e) || Nat.blt e.on i)&&LG r (i+1)
def number:List Oper→List Fp→Nat→List (Nat×Oper×Fp)
 | o::r,f::fs,i=>(i,o,f)::number r fs (i+1)
 | _,_,_=>[]
def TK (ops:Array Oper) (fps:List Fp):Bool:=
 Nat.beq fps.length ops.size&&(LG ops.toList 0&&Mc ops (Nr ops.toList []) (number ops.toList fps 0))
def BJ (M:AY) (ti:Types) (nt:Nat) (ops:Array Oper) (base:Nat):List Oper→Nat→St→List Fp→(St→List Fp→Prop)→Prop
 | [],i,σ,fps,K=>K ⟨σ.slots,σ.heap,base+32*i⟩ fps
 | o::r,i,σ,fps,K=>guarded ops o σ
   (fun σ1=>EN o<| D0 nt o.dst<| CI M ti o (base+32*i) (AH σ1.slots) (AK σ1.heap) fun out=>
    BJ M ti nt ops base r (i+1) ⟨BR σ1.slots o.dst out.val,Be σ1.heap out.wr,σ1.next⟩ (fps++[(out.rd,out.wr.map (·.1))]) K)
   (fun σ1=>D0 nt o.dst (BJ M ti nt ops base r (i+1) ⟨BR σ1.slots o.dst (.t []),σ1.heap,σ1.next⟩ (fps++[([],[])]) K))
def A4 (ti:Types) (M:AY) (nt:Nat) (ops:Array Oper) (σ:St) (K:St→Prop):Prop:=
 BJ M ti nt ops σ.next ops.toList 0 σ [] fun σ' fps=>M.lock (fun _=>TK ops fps=true)∧K σ'
structure Kv where
 o:Oper
 run:Bool
 val:AV
 rd:List Id
 wr:List (Id×AB)
def Bx (ops:Array Oper) (e:Kv) (s:AN):Prop:=
 match e.o.guard with
 | none=>e.run=true
 | some (j,want)=>∃d,(ops[j]?).bind (·.dst)=some d∧(s d= .v (.d (.bool (if e.run then want else !want)))∨(e.run=false∧s d= .t []))
def J4 (C:Cx) (ops:Array Oper) (base:Nat):List Kv→Nat→AN→AE→Prop
 | [],_,_,_=>True
 | e::r,i,s,h=>ops[i]?=some e.o∧(∀d,e.o.dst=some d→d<C.nt)∧Bx ops e s∧(e.run=true→(∀c,e.o.op≠ .defer c)∧A0 C e.o (base+32*i) s h ⟨e.val,e.rd,e.wr⟩)∧
   (e.run=false→e.val= .t []∧e.wr=[]∧e.rd=[])∧J4 C ops base r (i+1) (Bp s e.o.dst e.val) (Aq h e.wr)
def MO:List Kv→AN→AN
 | [],s=>s
 | e::r,s=>MO r (Bp s e.o.dst e.val)
def MP:List Kv→AE→AE
 | [],h=>h
 | e::r,h=>MP r (Aq h e.wr)
section
variable {C:Cx}{ti:Types}
theorem G0 (hti:Ao C.P ti) (h1:BB ti) {ops:Array Oper}{base:Nat}{K:St→List Fp→Prop}:∀(l:List Oper) (i:Nat) (σ:St) (fps:List Fp),
  ops.toList.drop i=l→BJ C.M ti C.nt ops base l i σ fps K→
  ∃(es:List Kv) (σ':St),es.map (·.o)=l∧J4 C ops base es i (AH σ.slots) (AK σ.heap)∧AH σ'.slots=MO es (AH σ.slots)∧AK σ'.heap=MP es (AK σ.heap)∧
   σ'.next=base+32*(i+l.length)∧K σ' (fps++es.map fun e=>(e.rd,e.wr.map (·.1)))
 | [],i,σ,fps,_,hk=>⟨[],⟨σ.slots,σ.heap,base+32*i⟩,rfl,trivial,rfl,rfl,by simp,by simpa using (show K ⟨σ.slots,σ.heap,base+32*i⟩ fps from hk)⟩
 | o::r,i,σ,fps,hl,hk=>by
  have hi:ops[i]?=some o:=by
   have:=congrArg (fun l=>l[0]?) hl
   simpa using this
  have hr:ops.toList.drop (i+1)=r:=by
   have:=congrArg List.tail hl
   simpa using this
  have run:∀(g:Bx ops ⟨o,true,.u,[],[]⟩ (AH σ.slots)),(EN o<| D0 C.nt o.dst<| CI C.M ti o (base+32*i) (AH σ.slots) (AK σ.heap) fun out=>
    BJ C.M ti C.nt ops base r (i+1) ⟨BR σ.slots o.dst out.val,Be σ.heap out.wr,σ.next⟩ (fps++[(out.rd,out.wr.map (·.1))]) K)→
    ∃(es:List Kv) (σ':St),es.map (·.o)=o::r∧J4 C ops base es i (AH σ.slots) (AK σ.heap)∧AH σ'.slots=MO es (AH σ.slots)∧AK σ'.heap=MP es (AK σ.heap)∧
     σ'.next=base+32*(i+(o::r).length)∧K σ' (fps++es.map fun e=>(e.rd,e.wr.map (·.1))):=by
   intro g hk
   obtain⟨hst,hnd,hk⟩:=Hf hk
   obtain⟨hd,hk⟩:=E6.1 hk
   obtain⟨out,hk,hok⟩:=Fx hti h1 hst.1 hst.2 hk
   obtain⟨es,σ',e1,e2,e3,e4,e5,e6⟩:=G0 hti h1 r (i+1) _ _ hr hk
   rw[CU]at e2 e3
   rw[Bw]at e2 e4
   refine⟨⟨o,true,out.val,out.rd,out.wr⟩::es,σ',by simp[e1],⟨hi,hd,g,fun _=>⟨hnd,hok⟩,fun e=>by simp at e,e2⟩,e3,e4,by rw[e5];simp;omega,?_⟩
   simpa using e6
  have skip:∀(g:Bx ops ⟨o,false,.t [],[],[]⟩ (AH σ.slots)),(D0 C.nt o.dst (BJ C.M ti C.nt ops base r (i+1) ⟨BR σ.slots o.dst (.t []),σ.heap,σ.next⟩ (fps++[([],[])]) K))→
    ∃(es:List Kv) (σ':St),es.map (·.o)=o::r∧J4 C ops base es i (AH σ.slots) (AK σ.heap)∧AH σ'.slots=MO es (AH σ.slots)∧AK σ'.heap=MP es (AK σ.heap)∧
     σ'.next=base+32*(i+(o::r).length)∧K σ' (fps++es.map fun e=>(e.rd,e.wr.map (·.1))):=by
   intro g hk
   obtain⟨hd,hk⟩:=E6.1 hk
   obtain⟨es,σ',e1,e2,e3,e4,e5,e6⟩:=G0 hti h1 r (i+1) _ _ hr hk
   rw[CU]at e2 e3
   refine⟨⟨o,false,.t [],[],[]⟩::es,σ',by simp[e1],⟨hi,hd,g,fun e=>by simp at e,fun _=>⟨rfl,rfl,rfl⟩,e2⟩,e3,e4,by rw[e5];simp;omega,?_⟩
   simpa using e6
  have hk':guarded ops o σ _ _:=hk
  unfold guarded at hk'
  split at hk'
  ·rename_i hg
   exact run (by simp[Bx,hg]) hk'
  ·rename_i j want hg
   split at hk'
   ·exact hk'.elim
   ·rename_i d hd
    split at hk'
    ·rename_i c hc
     cases want<;>cases c
     ·exact run (by simp only[Bx,hg];exact⟨d,hd,.inl hc⟩) hk'
     ·exact skip (by simp only[Bx,hg];exact⟨d,hd,.inl hc⟩) hk'
     ·exact skip (by simp only[Bx,hg];exact⟨d,hd,.inl hc⟩) hk'
     ·exact run (by simp only[Bx,hg];exact⟨d,hd,.inl hc⟩) hk'
    ·rename_i hc
     exact skip (by simp only[Bx,hg];exact⟨d,hd,.inr ⟨trivial,hc⟩⟩) hk'
    ·exact hk'.elim
def CO (S:Nat→Bool):List Kv→Nat→AN→AN
 | [],_,s=>s
 | e::r,i,s=>CO S r (i+1) (if S i then Bp s e.o.dst e.val else s)
def Bd (S:Nat→Bool):List Kv→Nat→AE→AE
 | [],_,h=>h
 | e::r,i,h=>Bd S r (i+1) (if S i then Aq h e.wr else h)
theorem cO {s s':AN}{d:Option Tmp}{v:AV}{t:Nat}(h:d≠some t→s t=s' t):Bp s d v t=Bp s' d v t:=by
 cases d with
 | none=>exact h (by simp)
 | some d=>
  simp only[Bp]
  by_cases ht:t=d
  ·simp[ht]
  ·simp only[if_neg ht];exact h (by simp;exact fun e=>ht e.symm)
theorem J5 {s:AN}{d:Option Tmp}{v:AV}{t:Nat}(h:d≠some t):Bp s d v t=s t:=by
 cases d with
 | none=>rfl
 | some d=>
  simp only[Bp]
  rw[if_neg]
  exact fun e=>h (by rw[e])
theorem V0 {h h':AE}{i:Id}:∀{wr:List (Id×AB)},(i∉wr.map (·.1)→h i=h' i)→Aq h wr i=Aq h' wr i:=by
 intro wr
 induction wr generalizing h h' with
 | nil=>intro hh;exact hh (by simp)
 | cons x wr ih=>
  intro hh
  refine ih fun hn=>?_
  simp only[AJ]
  by_cases hi:i=x.1
  ·simp[hi]
  ·simp only[if_neg hi]
   exact hh (by simp[hi];simpa using hn)
theorem C5 {S S':Nat→Bool}{t:Nat}:∀(es:List Kv) (i:Nat) (s s':AN),s t=s' t→(∀k e,es[k]?=some e→e.o.dst=some t→S (i+k)=S' (i+k))→
  CO S es i s t=CO S' es i s' t
 | [],i,s,s',h,_=>h
 | e::r,i,s,s',h,hw=>by
  refine C5 r (i+1) _ _ ?_ (fun k e' hk hd=>by have:=hw (k+1) e' (by simpa using hk) hd;rw[show i+1+k=i+(k+1)from by omega];exact this)
  by_cases hd:e.o.dst=some t
  ·have:=hw 0 e rfl hd
   simp only[Nat.add_zero]at this
   rw[this]
   cases S' i
   ·exact h
   ·exact cO (fun _=>h)
  ·cases S i<;>cases S' i<;>simp[J5 hd,h]
theorem Dd {S S':Nat→Bool}{x:Id}:∀(es:List Kv) (i:Nat) (h h':AE),h x=h' x→(∀k e,es[k]?=some e→x∈e.wr.map (·.1)→S (i+k)=S' (i+k))→
  Bd S es i h x=Bd S' es i h' x
 | [],i,h,h',hh,_=>hh
 | e::r,i,h,h',hh,hw=>by
  refine Dd r (i+1) _ _ ?_ (fun k e' hk hd=>by have:=hw (k+1) e' (by simpa using hk) hd;rw[show i+1+k=i+(k+1)from by omega];exact this)
  by_cases hd:x∈e.wr.map (·.1)
  ·have:=hw 0 e rfl hd
   simp only[Nat.add_zero]at this
   rw[this]
   cases S' i
   ·exact hh
   ·exact V0 (fun _=>hh)
  ·have e1:Aq h e.wr x=h x:=DU hd
   have e2:Aq h' e.wr x=h' x:=DU hd
   cases S i<;>cases S' i<;>simp[e1,e2,hh]
theorem Nt {S S':Nat→Bool}{t:Nat}{n:Nat}{en:Kv}:∀(es:List Kv) (i:Nat) (s:AN),es[n]?=some en→S (i+n)=false→S' (i+n)=true→(∀k,k≠i+n→S' k=S k)→
  (en.o.dst=some t→∀k e,es[k]?=some e→e.o.dst=some t→n<k→S (i+k)=false)→CO S' es i s t=Bp (CO S es i s) en.o.dst en.val t
 | [],i,s,hn,_,_,_,_=>by simp at hn
 | e::r,i,s,hn,h0,h1,hS,hb=>by
  cases n with
  | zero=>
   simp at hn
   subst hn
   simp only[Nat.add_zero]at h0 h1
   show CO S' r (i+1) (if S' i then Bp s e.o.dst e.val else s) t=Bp (CO S r (i+1) (if S i then Bp s e.o.dst e.val else s)) e.o.dst e.val t
   rw[h0,h1]
   simp only[if_true,Bool.false_eq_true,if_false]
   have same:∀s',CO S' r (i+1) s' t=CO S r (i+1) s' t:=fun s'=>C5 r (i+1) s' s' rfl (fun k e' _ _=>hS _ (by omega))
   rw[same]
   by_cases hd:e.o.dst=some t
   ·have none:∀s':AN,CO S r (i+1) s' t=s' t:=by
     intro s'
     have z:∀(l:List Kv) (m:Nat) (s':AN),(∀k e,l[k]?=some e→e.o.dst=some t→S (m+k)=false)→CO S l m s' t=s' t:=by
      intro l
      induction l with
      | nil=>intro m s' _;rfl
      | cons e l ih=>
       intro m s' hz
       show CO S l (m+1) (if S m then Bp s' e.o.dst e.val else s') t=_
       rw[ih (m+1) _ (fun k e' hk hd=>by have:=hz (k+1) e' (by simpa using hk) hd;rw[show m+1+k=m+(k+1)from by omega];exact this)]
       by_cases hd:e.o.dst=some t
       ·have:=hz 0 e rfl hd
        simp only[Nat.add_zero]at this
        simp[this]
       ·split
        ·exact J5 hd
        ·rfl
     exact z r (i+1) s' (fun k e' hk hd'=>by
      have:=hb hd (k+1) e' (by simpa using hk) hd' (by omega)
      rw[show i+1+k=i+(k+1)from by omega];exact this)
    rw[none,hd]
    simp[Bp]
   ·rw[J5 hd]
    exact C5 r (i+1) _ _ (J5 hd) (fun _ _ _ _=>rfl)
  | succ n=>
   have e1:S' i=S i:=hS i (by omega)
   show CO S' r (i+1) (if S' i then Bp s e.o.dst e.val else s) t=_
   rw[e1]
   refine Nt r (i+1) _ (by simpa using hn) (by rw[show i+1+n=i+(n+1)from by omega];exact h0) (by rw[show i+1+n=i+(n+1)from by omega];exact h1)
    (fun k hk=>hS k (by omega)) (fun hd k e' hk hd' hlt=>?_)
   have:=hb hd (k+1) e' (by simpa using hk) hd' (by omega)
   rw[show i+1+k=i+(k+1)from by omega];exact this
theorem LH {S S':Nat→Bool}{x:Id}{n:Nat}{en:Kv}:∀(es:List Kv) (i:Nat) (s:AE),es[n]?=some en→S (i+n)=false→S' (i+n)=true→(∀k,k≠i+n→S' k=S k)→
  (x∈en.wr.map (·.1)→∀k e,es[k]?=some e→x∈e.wr.map (·.1)→n<k→S (i+k)=false)→Bd S' es i s x=Aq (Bd S es i s) en.wr x
 | [],i,s,hn,_,_,_,_=>by simp at hn
 | e::r,i,s,hn,h0,h1,hS,hb=>by
  cases n with
  | zero=>
   simp at hn
   subst hn
   simp only[Nat.add_zero]at h0 h1
   show Bd S' r (i+1) (if S' i then Aq s e.wr else s) x=Aq (Bd S r (i+1) (if S i then Aq s e.wr else s)) e.wr x
   rw[h0,h1]
   simp only[if_true,Bool.false_eq_true,if_false]
   have same:∀s',Bd S' r (i+1) s' x=Bd S r (i+1) s' x:=fun s'=>Dd r (i+1) s' s' rfl (fun k e' _ _=>hS _ (by omega))
   rw[same]
   by_cases hd:x∈e.wr.map (·.1)
   ·have none:∀s':AE,Bd S r (i+1) s' x=s' x:=by
     intro s'
     have z:∀(l:List Kv) (m:Nat) (s':AE),(∀k e,l[k]?=some e→x∈e.wr.map (·.1)→S (m+k)=false)→Bd S l m s' x=s' x:=by
      intro l
      induction l with
      | nil=>intro m s' _;rfl
      | cons e l ih=>
       intro m s' hz
       show Bd S l (m+1) (if S m then Aq s' e.wr else s') x=_
       rw[ih (m+1) _ (fun k e' hk hd=>by have:=hz (k+1) e' (by simpa using hk) hd;rw[show m+1+k=m+(k+1)from by omega];exact this)]
       by_cases hd:x∈e.wr.map (·.1)
       ·have:=hz 0 e rfl hd
        simp only[Nat.add_zero]at this
        simp[this]
       ·split
        ·exact DU hd
        ·rfl
     exact z r (i+1) s' (fun k e' hk hd'=>by
      have:=hb hd (k+1) e' (by simpa using hk) hd' (by omega)
      rw[show i+1+k=i+(k+1)from by omega];exact this)
    rw[none]
    exact V0 (fun hn=>absurd hd hn)
   ·rw[DU hd]
    exact Dd r (i+1) _ _ (DU hd) (fun _ _ _ _=>rfl)
  | succ n=>
   have e1:S' i=S i:=hS i (by omega)
   show Bd S' r (i+1) (if S' i then Aq s e.wr else s) x=_
   rw[e1]
   refine LH r (i+1) _ (by simpa using hn) (by rw[show i+1+n=i+(n+1)from by omega];exact h0) (by rw[show i+1+n=i+(n+1)from by omega];exact h1)
    (fun k hk=>hS k (by omega)) (fun hd k e' hk hd' hlt=>?_)
   have:=hb hd (k+1) e' (by simpa using hk) hd' (by omega)
   rw[show i+1+k=i+(k+1)from by omega];exact this
end
end Go.AM
namespace Go.AM
open Go Go.RowKit
section
variable {C:Cx}{ti:Types}
theorem E7 {S:Nat→Bool}:∀(es:List Kv) (i:Nat) (s:AN),(∀k,i≤k→S k=false)→CO S es i s=s
 | [],_,_,_=>rfl
 | e::r,i,s,h=>by
  show CO S r (i+1) (if S i then _ else s)=s
  rw[h i (Nat.le_refl _)]
  exact E7 r (i+1) s (fun k hk=>h k (by omega))
theorem G1 {S:Nat→Bool}:∀(es:List Kv) (i:Nat) (s:AE),(∀k,i≤k→S k=false)→Bd S es i s=s
 | [],_,_,_=>rfl
 | e::r,i,s,h=>by
  show Bd S r (i+1) (if S i then _ else s)=s
  rw[h i (Nat.le_refl _)]
  exact G1 r (i+1) s (fun k hk=>h k (by omega))
theorem J6 {S:Nat→Bool}:∀(es:List Kv) (i:Nat) (s:AN),(∀k,k<es.length→S (i+k)=true)→CO S es i s=MO es s
 | [],_,_,_=>rfl
 | e::r,i,s,h=>by
  show CO S r (i+1) (if S i then _ else s)=MO r _
  rw[show S i=true from h 0 (by simp)]
  exact J6 r (i+1) _ (fun k hk=>by have:=h (k+1) (by simp;omega);rw[show i+1+k=i+(k+1)from by omega];exact this)
theorem IY {S:Nat→Bool}:∀(es:List Kv) (i:Nat) (s:AE),(∀k,k<es.length→S (i+k)=true)→Bd S es i s=MP es s
 | [],_,_,_=>rfl
 | e::r,i,s,h=>by
  show Bd S r (i+1) (if S i then _ else s)=MP r _
  rw[show S i=true from h 0 (by simp)]
  exact IY r (i+1) _ (fun k hk=>by have:=h (k+1) (by simp;omega);rw[show i+1+k=i+(k+1)from by omega];exact this)
def lH (C:Cx) (ops:Array Oper) (base:Nat) (e:Kv) (i:Nat) (s:AN) (h:AE):Prop:=
 ops[i]?=some e.o∧(∀d,e.o.dst=some d→d<C.nt)∧Bx ops e s∧(e.run=true→(∀c,e.o.op≠ .defer c)∧A0 C e.o (base+32*i) s h ⟨e.val,e.rd,e.wr⟩)∧
   (e.run=false→e.val= .t []∧e.wr=[]∧e.rd=[])
theorem Yw {ops:Array Oper}{base:Nat}(es:List Kv):∀(m n:Nat) (s:AN) (h:AE) (e:Kv),J4 C ops base es m s h→es[n]?=some e→
  lH C ops base e (m+n) (CO (fun k=>decide (k<m+n)) es m s) (Bd (fun k=>decide (k<m+n)) es m h):=by
 induction es with
 | nil=>intro m n s h e _ hn;simp at hn
 | cons x r ih=>
  intro m n s h e hl hn
  cases n with
  | zero=>
   simp at hn
   subst hn
   have e1:CO (fun k=>decide (k<m+0)) (x::r) m s=s:=E7 _ _ _ (fun k hk=>by simp;omega)
   have e2:Bd (fun k=>decide (k<m+0)) (x::r) m h=h:=G1 _ _ _ (fun k hk=>by simp;omega)
   rw[e1,e2]
   exact⟨hl.1,hl.2.1,hl.2.2.1,hl.2.2.2.1,hl.2.2.2.2.1⟩
  | succ n=>
   have:=ih (m+1) n _ _ e hl.2.2.2.2.2 (by simpa using hn)
   rw[show m+1+n=m+(n+1)from by omega]at this
   have e1:CO (fun k=>decide (k<m+(n+1))) (x::r) m s=CO (fun k=>decide (k<m+(n+1))) r (m+1) (Bp s x.o.dst x.val):=by
    show CO _ r (m+1) (if decide (m<m+(n+1))then _ else _)=_
    rw[if_pos (by simp)]
   have e2:Bd (fun k=>decide (k<m+(n+1))) (x::r) m h=Bd (fun k=>decide (k<m+(n+1))) r (m+1) (Aq h x.wr):=by
    show Bd _ r (m+1) (if decide (m<m+(n+1))then _ else _)=_
    rw[if_pos (by simp)]
   rw[e1,e2]
   exact this
theorem AR.drew {F:Nat→Prop}{s:AN}{h:AE}{g:AL}{a:Act}{w:World}(R:AR C F s h g a w):AR C F s h g a {w with drawn:=w.drawn+1}:=by
 have E:Gp w (Al (zone g h) C.X) g h {w with drawn:=w.drawn+1} (Al (zone g h) C.X) g h:=
  ⟨fun b o u hu hz=>⟨hu,hz⟩,fun _ _ _=>rfl,fun _ _ _=>rfl,fun _ hi=>hi,fun i n sz e _ hn=>⟨n,Nat.le_refl _,hn,fun _=>rfl⟩,fun _ hi=>hi,fun i _ hn=>⟨hn,rfl⟩⟩
 refine R.step (fun _=>False) E ⟨rfl,rfl,rfl,Nat.le_refl _,fun _ _ _=>rfl,fun _ _ _ hu _=>hu⟩ (fun _ _=>⟨rfl,rfl⟩) (fun _ _ _ _ _ _=>rfl) (fun _ _ h=>h.elim) (fun _ _ _ _ h=>h.elim)
  (fun _ _ _ _ _ h=>h.elim) (fun _ h=>h.elim) R.free
theorem filter_one {p p':Nat→Bool}{i:Nat}:∀{l:List Nat},l.Nodup→i∈l→p i=true→p' i=false→(∀k,k≠i→p' k=p k)→(l.filter p').length+1=(l.filter p).length
 | x::l,hn,hi,h1,h0,hs=>by
  have hn':=List.nodup_cons.1 hn
  by_cases hx:x=i
  ·subst hx
   have:l.filter p'=l.filter p:=List.filter_congr fun k hk=>hs k (fun e=>hn'.1 (e▸hk))
   simp[h1,h0,this]
  ·have hil:i∈l:=(List.mem_cons.1 hi).resolve_left (fun e=>hx e.symm)
   have ih:=filter_one hn'.2 hil h1 h0 hs
   have:=hs x hx
   simp only[List.filter_cons,this]
   split<;>simp[ih]
theorem FO {a b:List Nat}{x:Nat}(ha:x∈a) (hb:x∈b):meet a b=true:=by
 simp only[meet,List.any_eq_true]
 exact⟨x,ha,x,hb,by simp⟩
theorem E8 {a b:List Id}{x:Id}(ha:x∈a) (hb:x∈b):TJ a b=true:=by
 simp only[TJ,List.any_eq_true]
 exact⟨x,ha,x,hb,Id.beq_iff.2 rfl⟩
theorem DX {t:Nat}:∀{l:List Operand},Operand.tmp t∈l→t∈tmpsOf l
 | .tmp x::l,h=>by
  rcases List.mem_cons.1 h with h | h
  ·simp at h;subst h;simp[tmpsOf]
  ·simp[tmpsOf,DX h]
 | .const v::l,h=>by simp[tmpsOf,DX ((List.mem_cons.1 h).resolve_left (by simp))]
 | .global v::l,h=>by simp[tmpsOf,DX ((List.mem_cons.1 h).resolve_left (by simp))]
 | .func v::l,h=>by simp[tmpsOf,DX ((List.mem_cons.1 h).resolve_left (by simp))]
theorem G2 (l:List Oper):∀(fs:List Fp) (i n:Nat) (o:Oper) (f:Fp),l[n]?=some o→fs[n]?=some f→(i+n,o,f)∈number l fs i:=by
 induction l with
 | nil=>intro fs i n o f h1 _;simp at h1
 | cons x l ih=>
  intro fs i n o f h1 h2
  cases fs with
  | nil=>simp at h2
  | cons y fs=>
   cases n with
   | zero=>simp at h1 h2;subst h1;subst h2;simp[number]
   | succ n=>
    simp at h1 h2
    have:=ih fs (i+1) n o f h1 h2
    rw[show i+1+n=i+(n+1)from by omega]at this
    simp[number,this]
theorem Nu (l:List Oper):∀(i n:Nat) (o:Oper) (e:Edge),LG l i=true→l[n]?=some o→e∈o.after.toList→Region.binds .any e=true→e.on<i+n:=by
 induction l with
 | nil=>intro i n o e _ h1 _ _;simp at h1
 | cons x l ih=>
  intro i n o e h h1 he hb
  simp only[LG,Bool.and_eq_true,List.all_eq_true]at h
  cases n with
  | zero=>
   simp at h1
   subst h1
   have:=h.1 e he
   simpa [hb] using this
  | succ n=>
   simp at h1
   have:=ih (i+1) n o e h.2 h1 he hb
   omega
theorem TL (hti:Ao C.P ti) (h1:BB ti) (ops:Array Oper) (σ:St) (K:St→Prop) (Q:Exit→Act→World→Prop) (a:Act) (w:World)
  (hQ:∀σ a w,K σ→BX C σ a w→Q .normal a w) (hk:A4 ti C.M C.nt ops σ K) (R:BX C σ a w):
  wpAnyIn (A7 C.ro) 0 C.P .any ops Q ops.size (Array.replicate ops.size false) a {w with drawn:=w.drawn+1}:=by
 obtain⟨es,σ',e1,hlex,e3,e4,e5,hlock,hK⟩:=G0 hti h1 ops.toList 0 σ [] rfl hk
 have hB:=(C.M.lock_iff _).1 hlock
 simp only[List.nil_append]at hB
 simp only[TK,Bool.and_eq_true,Nat.beq_eq]at hB
 obtain⟨hlen,hback,hpairs⟩:=hB
 have hlen:es.length=ops.size:=by simpa using congrArg List.length e1
 have hes:∀(n:Nat) e,es[n]?=some e→ops.toList[n]?=some e.o:=by
  intro n e he
  rw[←e1];simp[he]
 have ahead:∀(i j:Nat) ei ej,es[i]?=some ei→es[j]?=some ej→i<j→(CA ops ei.o ej.o || Dq (ei.rd,ei.wr.map (·.1)) (ej.rd,ej.wr.map (·.1)))=true→Cv ops.toList i j:=by
  intro i j ei ej hi hj hlt hc
  have m1:=G2 ops.toList (es.map fun e=>(e.rd,e.wr.map (·.1))) 0 i _ _ (hes i ei hi) (by simp[hi];rfl)
  have m2:=G2 ops.toList (es.map fun e=>(e.rd,e.wr.map (·.1))) 0 j _ _ (hes j ej hj) (by simp[hj];rfl)
  simp only[Mc,List.all_eq_true]at hpairs
  have:=hpairs _ m1 _ m2
  simp only[Nat.zero_add]at this
  have hb:Nat.blt i j=true:=by simpa using hlt
  rw[hb,hc]at this
  simp only[Bool.not_true,Bool.false_or]at this
  exact LF ops.toList [] rfl (by simp[List.getD]) j i this
 let s0:=AH σ.slots
 let h0:=AK σ.heap
 let base:=σ.next
 let Bl:Array Bool→Nat→Bool:=fun listed k=>listed.getD k false
 have main:∀(fuel:Nat) (listed:Array Bool) (a:Act) (w:World),listed.size=ops.size→
   ((List.range ops.size).filter (fun k=>!Bl listed k)).length=fuel→
   (∀i j,Cv ops.toList i j→Bl listed j=true→Bl listed i=true)→
   Rel C (fun n=>base≤n∧∀i,Bl listed i=true→¬(base+32*i≤n∧n<base+32*i+32)) (CO (Bl listed) es 0 s0) (Bd (Bl listed) es 0 h0) a w→
   wpAnyIn (A7 C.ro) 0 C.P .any ops Q fuel listed a w:=by
  intro fuel
  induction fuel with
  | zero=>
   intro listed a w hsz hcnt hcl R
   have hall:∀k,k<ops.size→Bl listed k=true:=by
    intro k hk
    have:=List.eq_nil_of_length_eq_zero hcnt
    cases hs:Bl listed k with
    | true=>rfl
    | false=>
     have:k∈(List.range ops.size).filter (fun k=>!Bl listed k):=by simp[hk,hs]
     rw[List.eq_nil_of_length_eq_zero hcnt]at this
     simp at this
   refine⟨?_,?_⟩
   ·cases hr:Region.ready .any ops listed with
    | nil=>rfl
    | cons j l=>
     have hj:j∈Region.ready .any ops listed:=by rw[hr];simp
     obtain⟨h2,o,ho,_⟩:=mem_ready.1 hj
     have hlt:=(Array.getElem?_eq_some_iff.1 ho).1
     have:=hall j hlt
     simp only[Bl]at this
     have hjl:j<listed.size:=by omega
     simp[hjl]at this h2
     rw[this]at h2
     simp at h2
   ·refine hQ σ' a w hK ?_
    have:BX C σ' a w↔Rel C (fun n=>σ'.next≤n) (AH σ'.slots) (AK σ'.heap) a w:=Iff.rfl
    rw[this,e3,e4,e5]
    have z1:CO (Bl listed) es 0 s0=MO es s0:=J6 es 0 s0 (fun k hk=>by rw[Nat.zero_add];exact hall k (by omega))
    have z2:Bd (Bl listed) es 0 h0=MP es h0:=IY es 0 h0 (fun k hk=>by rw[Nat.zero_add];exact hall k (by omega))
    rw[z1,z2]at R
    refine R.AW (fun n hn=>?_)
    simp only[Nat.zero_add,Array.length_toList]at hn
    refine⟨by simp only[base];omega,fun i hi=>?_⟩
    have:i<ops.size:=by
     simp only[Bl]at hi
     have hil:i<listed.size:=by
      rcases Nat.lt_or_ge i listed.size with h | h
      ·exact h
      ·simp[Array.getElem?_eq_none h]at hi
     omega
    simp only[base]
    omega
  | succ fuel ih=>
   intro listed a w hsz hcnt hcl R
   have hstep:∀i,i∈Region.ready .any ops listed→wpOpIn (A7 C.ro) 0 C.P ops Q i (wpAnyIn (A7 C.ro) 0 C.P .any ops Q fuel (listed.setIfInBounds i true)) a w:=by
    intro i hi
    obtain⟨hi0,o,ho,hedges⟩:=mem_ready.1 hi
    have hlt:i<ops.size:=(Array.getElem?_eq_some_iff.1 ho).1
    have hil:i<listed.size:=by omega
    have hS0:Bl listed i=false:=by
     simp[hil]at hi0
     simp[Bl,hil,hi0]
    have hS1:Bl (listed.setIfInBounds i true) i=true:=by simp[Bl,hil]
    have hSo:∀k,k≠i→Bl (listed.setIfInBounds i true) k=Bl listed k:=by
     intro k hk
     simp[Bl,Array.getElem?_setIfInBounds_ne (Ne.symm hk)]
    obtain⟨en,hen⟩:∃en,es[i]?=some en:=⟨es[i],by simp[hlen,hlt]⟩
    have hEnt:=Yw es 0 i s0 h0 en hlex hen
    rw[Nat.zero_add]at hEnt
    obtain⟨ho',hd,hg,hrun,hskip⟩:=hEnt
    rw[ho]at ho'
    obtain rfl:o=en.o:=by simpa using ho'
    -- who writes what i reads or writes
    have order:∀k e,es[k]?=some e→k≠i→(k<i→(CA ops e.o en.o || Dq (e.rd,e.wr.map (·.1)) (en.rd,en.wr.map (·.1)))=true)→
      (i<k→(CA ops en.o e.o || Dq (en.rd,en.wr.map (·.1)) (e.rd,e.wr.map (·.1)))=true)→Bl listed k=decide (k<i):=by
     intro k e he hne c1 c2
     by_cases hki:k<i
     ·have ah:=ahead k i e en he hen hki (c1 hki)
      have:Bl listed k=true:=by
       have gen:∀x y,Cv ops.toList x y→y=i→Bl listed x=true:=by
        intro x y hxy
        induction hxy with
        | edge hj hee hb hei=>
         intro hy
         subst hy
         rw[←hei]
         have:=hes _ en hen
         rw[hj]at this
         simp at this
         subst this
         exact hedges _ (by simpa using hee) hb
        | trans p q ihp ihq=>
         intro hy
         exact hcl _ _ p (ihq hy)
       exact gen k i ah rfl
      simp[this,hki]
     ·have hik:i<k:=by omega
      have ah:=ahead i k en e hen he hik (c2 hik)
      have:Bl listed k=false:=by
       cases hs:Bl listed k with
       | false=>rfl
       | true=>have:=hcl i k ah hs;rw[hS0]at this;simp at this
      simp[this,hki]
    have slotAgree:∀t,t∈C0 ops en.o→CO (Bl listed) es 0 s0 t=CO (fun k=>decide (k<i)) es 0 s0 t:=by
     intro t ht
     refine C5 es 0 s0 s0 rfl (fun k e he hdst=>?_)
     rw[Nat.zero_add]
     by_cases hki:k=i
     ·subst hki;simp[hS0]
     ·refine order k e he hki (fun _=>?_) (fun _=>?_)
      ·simp[CA,FO (x:=t) (a:=e.o.dst.toList) (b:=C0 ops en.o) (by simp[hdst]) ht]
      ·simp[CA,FO (x:=t) (a:=C0 ops en.o) (b:=e.o.dst.toList) ht (by simp[hdst])]
    have idAgree:∀x,x∈en.rd→Bd (Bl listed) es 0 h0 x=Bd (fun k=>decide (k<i)) es 0 h0 x:=by
     intro x hx
     refine Dd es 0 h0 h0 rfl (fun k e he hw=>?_)
     rw[Nat.zero_add]
     by_cases hki:k=i
     ·subst hki;simp[hS0]
     ·refine order k e he hki (fun _=>?_) (fun _=>?_)
      ·simp[Dq,E8 (x:=x) (a:=e.wr.map (·.1)) (b:=en.rd) hw hx]
      ·simp[Dq,E8 (x:=x) (a:=en.rd) (b:=e.wr.map (·.1)) hx hw]
    have cl':∀x y,Cv ops.toList x y→Bl (listed.setIfInBounds i true) y=true→Bl (listed.setIfInBounds i true) x=true:=by
     intro x y hxy hy
     by_cases hx:x=i
     ·rw[hx];exact hS1
     ·rw[hSo x hx]
      by_cases hyi:y=i
      ·subst hyi
       have gen:∀x y',Cv ops.toList x y'→y'=y→Bl listed x=true:=by
        intro x y' hxy
        induction hxy with
        | edge hj hee hb hei=>
         intro hy
         subst hy
         rw[←hei]
         have:=hes _ en hen
         rw[hj]at this
         simp at this
         subst this
         exact hedges _ (by simpa using hee) hb
        | trans p q ihp ihq=>
         intro hy
         exact hcl _ _ p (ihq hy)
       exact gen x y hxy rfl
      ·rw[hSo y hyi]at hy
       exact hcl x y hxy hy
    have cnt':((List.range ops.size).filter (fun k=>!Bl (listed.setIfInBounds i true) k)).length=fuel:=by
     have:=filter_one (p:=fun k=>!Bl listed k) (p':=fun k=>!Bl (listed.setIfInBounds i true) k) (i:=i) (l:=List.range ops.size) List.nodup_range (by simp[hlt]) (by simp[hS0]) (by simp[hS1])
      (fun k hk=>by simp[hSo k hk])
     omega
    have addS:CO (Bl (listed.setIfInBounds i true)) es 0 s0=Bp (CO (Bl listed) es 0 s0) en.o.dst en.val:=by
     funext t
     refine Nt es 0 s0 hen (by simpa using hS0) (by simpa using hS1) (fun k hk=>hSo k (by omega)) (fun hdst k e he hdst' hik=>?_)
     rw[Nat.zero_add]
     have:=order k e he (by omega) (fun h=>absurd h (by omega)) (fun _=>by simp[CA,FO (x:=t) (a:=en.o.dst.toList) (b:=e.o.dst.toList) (by simp[hdst]) (by simp[hdst'])])
     rw[this]
     simp;omega
    have addH:Bd (Bl (listed.setIfInBounds i true)) es 0 h0=Aq (Bd (Bl listed) es 0 h0) en.wr:=by
     funext x
     refine LH es 0 h0 hen (by simpa using hS0) (by simpa using hS1) (fun k hk=>hSo k (by omega)) (fun hw k e he hw' hik=>?_)
     rw[Nat.zero_add]
     have:=order k e he (by omega) (fun h=>absurd h (by omega)) (fun _=>by simp[Dq,E8 (x:=x) (a:=en.wr.map (·.1)) (b:=e.wr.map (·.1)) hw hw'])
     rw[this]
     simp;omega
    have next:∀a' w',Rel C (fun n=>(base≤n∧∀i,Bl listed i=true→¬(base+32*i≤n∧n<base+32*i+32))∧¬(base+32*i≤n∧n<base+32*i+32))
      (Bp (CO (Bl listed) es 0 s0) en.o.dst en.val) (Aq (Bd (Bl listed) es 0 h0) en.wr) a' w'→wpAnyIn (A7 C.ro) 0 C.P .any ops Q fuel (listed.setIfInBounds i true) a' w':=by
     intro a' w' R'
     refine ih _ a' w' (by simp[hsz]) cnt' cl' ?_
     rw[addS,addH]
     refine R'.AW (fun n hn=>⟨⟨hn.1,fun j hj=>?_⟩,hn.2 i hS1⟩)
     by_cases hji:j=i
     ·subst hji;exact hn.2 j hS1
     ·exact hn.2 j (by rw[hSo j hji];exact hj)
    have hw:Region.wanted en.o (yielded ops a.tmps)=en.run:=by
     unfold Bx at hg
     split at hg
     ·rename_i hgn
      simp[Region.wanted,hgn,hg]
     ·rename_i j want hgs
      obtain⟨d,hdj,hsd⟩:=hg
      have hmem:d∈C0 ops en.o:=by simp[C0,hgs,hdj]
      rw[←slotAgree d hmem]at hsd
      rcases hsd with hsd | ⟨hrf,hsd⟩
      rotate_left
      ·have hy:yielded ops a.tmps j=none:=by
        obtain⟨g,R⟩:=R
        have:=R.slots d
        rw[hsd]at this
        obtain⟨vs,hv,_⟩:=this
        exact Gz hdj ⟨vs,hv⟩
       simp[Region.wanted,hgs,hy,hrf]
      have hy:yielded ops a.tmps j=some (if en.run then want else !want):=by
       obtain⟨g,R⟩:=R
       have:=R.slots d
       rw[hsd]at this
       have hv:=O1 this
       unfold yielded
       rw[hdj]
       have:a.tmps[d]?=some (.bool (if en.run then want else !want)):=by
        rw[Array.getD_eq_getD_getElem?]at hv
        cases h:a.tmps[d]? with
        | none=>rw[h]at hv;simp[undef]at hv
        | some v=>rw[h]at hv;simpa using hv
       simp[this]
      simp only[Region.wanted,hgs,hy]
      cases en.run<;>cases want<;>rfl
    unfold wpOpIn
    rw[ho]
    simp only[]
    cases hr:en.run with
    | true=>
     rw[if_pos (by rw[hw,hr])]
     refine HZ (hrun hr).1 (Oper.wp_mono next ?_)
     refine (hrun hr).2 _ _ _ a w Q R (fun t ht=>slotAgree t (by simp[C0,DX ht])) idAgree (fun k hk=>⟨by omega,fun j hj=>?_⟩) hd
     by_cases hji:j=i
     ·subst hji;rw[hS0]at hj;simp at hj
     ·omega
    | false=>
     rw[if_neg (by rw[hw,hr];simp)]
     obtain⟨z1,z2,z3⟩:=hskip hr
     refine⟨fun f _=>B9 _ f,next _ w ?_⟩
     rw[z1,z2]
     obtain⟨g,R⟩:=R
     refine⟨g,(R.put hd (v:=.t []) ⟨#[],rfl,rfl,by simp⟩).AW (fun n hn=>hn.1)⟩
   refine⟨fun hnil=>?_,hstep⟩
   -- not all are listed: the least of those is ready
   exfalso
   have hex:∃k,k<ops.size∧Bl listed k=false:=by
    have:(List.range ops.size).filter (fun k=>!Bl listed k)≠[]:=by intro e;rw[e]at hcnt;simp at hcnt
    obtain⟨k,hk⟩:=List.exists_mem_of_ne_nil _ this
    simp at hk
    exact⟨k,hk.1,hk.2⟩
   obtain⟨k,⟨hk1,hk2⟩,hmin⟩:=least hex
   have:k∈Region.ready .any ops listed:=by
    refine mem_ready.2 ⟨?_,ops[k],by simp[hk1],fun e he hb=>?_⟩
    ·have hkl:k<listed.size:=by omega
     simp only[Bl]at hk2
     simp[hkl]at hk2 ⊢
     exact hk2
    ·have hlt:e.on<0+k:=Nu ops.toList 0 k ops[k] e hback (by simp[hk1]) (by simpa using he) hb
     cases hs:Bl listed e.on with
     | true=>exact hs
     | false=>have:=hmin e.on ⟨by omega,hs⟩;omega
   rw[hnil]at this
   simp at this
 refine main ops.size (Array.replicate ops.size false) a _ (by simp) ?_ ?_ ?_
 ·have:(List.range ops.size).filter (fun k=>!Bl (Array.replicate ops.size false) k)=List.range ops.size:=by
   refine List.filter_eq_self.2 fun k hk=>?_
   simp only[Bl,Array.getD_eq_getD_getElem?,Array.getElem?_replicate]
   split<;>rfl
  rw[this];simp
 ·intro i j _ hj
  exfalso
  revert hj
  simp only[Bl,Array.getD_eq_getD_getElem?,Array.getElem?_replicate]
  split<;>simp
 ·have hz:∀k,Bl (Array.replicate ops.size false) k=false:=by intro k;simp only[Bl,Array.getD_eq_getD_getElem?,Array.getElem?_replicate];split<;>rfl
  rw[E7 es 0 s0 (fun k _=>hz k),G1 es 0 h0 (fun k _=>hz k)]
  obtain⟨g,R⟩:=R
  exact⟨g,R.drew.AW (fun n hn=>hn.1)⟩
theorem cP (hti:Ao C.P ti) (h1:BB ti) (hm:C.P.follows .mixedOrders=true):D9 C (A4 ti C.M C.nt):=
 fun _ ops σ K Q a w hQ _ hk R=>wpIn_region_any hm (TL hti h1 ops σ K Q a w hQ hk R)
end
end Go.AM
namespace Go.AM
open Go Go.RowKit
theorem AR.Ls {C:Cx}{F:Nat→Prop}{s:AN}{h:AE}{g:AL}{a:Act}{w:World}(R:AR C F s h g a w) (t:Nat) (v:AV) (hr:An w (Al (zone g h) C.X) g h v (a.tmps.getD t undef)) (hv:∀f cs rows,v≠ .df f cs rows:=by simp):
  AR C F (Bp s (some t) v) h g a w:=by
 have hdf:DH w (Al (zone g h) C.X) g C.M.cl (Bp s (some t) v DT) a.defers C.D:=by
  simp only[Bp]
  split
  ·exact R.defers.un hv
  ·exact R.defers
 refine {R with slots:=fun t'=>?_,defers:=hdf}
 simp only[Bp]
 split
 ·subst_vars;exact hr
 ·exact R.slots t'
theorem AR.mQ {C:Cx}{F:Nat→Prop}{s:AN}{h:AE}{g:AL}{a:Act}{w:World}(R:AR C F s h g a w) {n:Nat}(hf:F n) (ag:Bool) {sz:Nat}(hsz:0<sz) (e:TypeId):
  AR C (fun k=>F k∧k≠n) s (AJ h (.loc n) (.tok 0 sz e)) (Ah g (.loc n) (.slice none 0 0)) a w∧
   Au w (Al (zone (Ah g (.loc n) (.slice none 0 0)) (AJ h (.loc n) (.tok 0 sz e))) C.X) (Ah g (.loc n) (.slice none 0 0)) (AJ h (.loc n) (.tok 0 sz e)) (.lst (.loc n) ag sz []) (.slice none 0 0):=
 R.owned (out:=[]) (zs:=[]) hf ⟨rfl,rfl,rfl,Nat.le_refl _,fun _ _ _=>rfl⟩ hsz (World.ownsRow_nil w _ e sz) (by simp) (by simp)
def Md (t:Nat) (ag:Bool) (sz:Nat) (e:TypeId) (σ:St):St:=
 ⟨(t,.v (.c (.lst (.loc σ.next) ag sz [])))::σ.slots,CR σ.heap (.loc σ.next) (.tok 0 sz e),σ.next+32⟩
theorem J7 {t:Nat}{ag:Bool}{sz:Nat}{e:TypeId}{σ:St}(hsz:Nat.blt 0 sz=true) (ht:AH σ.slots t= .v (.c (.nils ag sz))):A8 σ (Md t ag sz e σ):=by
 rintro C a w ⟨g,R⟩
 have hv:=R.slots t
 rw[ht]at hv
 have hv:a.tmps.getD t undef= .slice none 0 0:=hv
 obtain⟨R',hl⟩:=R.mQ (n:=σ.next) (Nat.le_refl _) ag (sz:=sz) (by simp[Nat.blt]at hsz;omega) e
 have R2:=(R'.Ls t (.v (.c (.lst (.loc σ.next) ag sz []))) (by rw[hv];exact hl)).AW (F':=fun n=>σ.next+32≤n) (fun n hn=>⟨by omega,by omega⟩)
 refine⟨Ah g (.loc σ.next) (.slice none 0 0),?_⟩
 simp only[Md,Ai,Bh]
 exact R2
def G3 {α:Type}:List α→Nat→α→List α
 | [],_,_=>[]
 | x::r,n,y=>match n with
  | 0=>y::r
  | m+1=>x::G3 r m y
theorem Gf {α:Type}:∀(l:List α) (n:Nat) (y:α),G3 l n y=l.set n y
 | [],_,_=>rfl
 | _::_,0,_=>rfl
 | x::r,n+1,y=>by simp[G3,Gf r n y]
def Me (i:Id) (j:Nat) (ag:Bool) (sz:Nat) (e:TypeId) (σ:St):St:=
 match AK σ.heap i with
 | some (.cells cs)=>⟨σ.slots,CR (CR σ.heap (.loc σ.next) (.tok 0 sz e)) i (.cells (G3 cs j (.lst (.loc σ.next) ag sz []))),σ.next+32⟩
 | _=>σ
theorem J8 {i:Id}{j:Nat}{ag:Bool}{sz:Nat}{e:TypeId}{σ:St}{cs:List CV}(hsz:Nat.blt 0 sz=true) (hi:AK σ.heap i=some (.cells cs)) (hj:cs[j]?=some (.nils ag sz)):A8 σ (Me i j ag sz e σ):=by
 rintro C a w ⟨g,R⟩
 obtain⟨R',hl⟩:=R.mQ (n:=σ.next) (Nat.le_refl _) ag (sz:=sz) (by simp[Nat.blt]at hsz;omega) e
 have hne:i≠ .loc σ.next:=by
  rintro rfl
  have:=(R.free σ.next (Nat.le_refl _)).2
  rw[this]at hi;cases hi
 have hi':AJ (AK σ.heap) (.loc σ.next) (.tok 0 sz e) i=some (.cells cs):=by simp[AJ,hne,hi]
 obtain⟨b,c,et,hb,hh,hsz2,hr⟩:=R'.heap.objs i _ hi'
 have R2:=R'.store (cs':=cs.set j (.lst (.loc σ.next) ag sz [])) hi' hb hh (c':=c) (by simp[hsz2]) (fun k x u hx hu=>by
  by_cases hk:k=j
  ·subst hk
   have hlt:k<cs.length:=(List.getElem?_eq_some_iff.1 hj).1
   rw[List.getElem?_set_self hlt]at hx
   cases hx
   have:=hr k _ u hj hu
   rw[show u=_ from this]
   exact hl
  ·rw[List.getElem?_set_ne (by omega)]at hx
   exact hr k x u hx hu)
 have hw:w.setRow b c=w:=setRow_self w b c _ _ hh
 rw[hw]at R2
 have R3:=R2.AW (F':=fun n=>σ.next+32≤n) (fun n hn=>⟨by omega,by omega⟩)
 refine⟨Ah g (.loc σ.next) (.slice none 0 0),?_⟩
 simp only[Me,hi,Bh,Gf]
 exact R3
inductive Ur where
 | slot (t:Nat) (ag:Bool) (sz:Nat) (e:TypeId)
 | cell (i:Id) (j:Nat) (ag:Bool) (sz:Nat) (e:TypeId)
def FP (ag:Bool) (sz:Nat):CV→Bool
 | .nils a s=>(a==ag)&&Nat.beq s sz
 | _=>false
def Ez (ag:Bool) (sz:Nat):AV→Bool
 | .v (.c c)=>FP ag sz c
 | _=>false
def MQ:List CV→Nat→CV
 | [],_=>.un
 | x::r,n=>match n with
  | 0=>x
  | m+1=>MQ r m
def Qz (K:St→Prop):List Ur→St→Prop
 | [],σ=>K σ
 | .slot t ag sz e::r,σ=>Ay (Nat.blt 0 sz)<| Ay (Ez ag sz (AH σ.slots t))<| Qz K r (Md t ag sz e σ)
 | .cell i j ag sz e::r,σ=>Ay (Nat.blt 0 sz)<| (match AK σ.heap i with
  | some (.cells cs)=>Ay (FP ag sz (MQ cs j))<| Qz K r (Me i j ag sz e σ)
  | _=>False)
theorem LI {ag:Bool}{sz:Nat}{c:CV}(h:FP ag sz c=true):c= .nils ag sz:=by
 cases c<;>simp[FP]at h
 obtain⟨rfl,h⟩:=h
 rw[h]
theorem Hi:∀{cs:List CV}{j:Nat}{ag:Bool}{sz:Nat},FP ag sz (MQ cs j)=true→cs[j]?=some (.nils ag sz)
 | [],j,ag,sz,h=>by simp[MQ,FP]at h
 | x::r,0,ag,sz,h=>by simpa using LI (by simpa [MQ] using h)
 | x::r,j+1,ag,sz,h=>by simpa using Hi (cs:=r) (j:=j) (by simpa [MQ] using h)
theorem Hj {K:St→Prop}:∀{l:List Ur}{σ:St},Qz K l σ→∃σ',(∀C a w,BX C σ a w→BX C σ' a w)∧K σ'
 | [],σ,h=>⟨σ,fun _ _ _ r=>r,h⟩
 | .slot t ag sz e::r,σ,h=>by
  obtain⟨h1,h⟩:=AA.1 h
  obtain⟨h2,h⟩:=AA.1 h
  obtain⟨σ',h3,h4⟩:=Hj h
  have ht:AH σ.slots t= .v (.c (.nils ag sz)):=by
   revert h2
   cases AH σ.slots t with
   | v x=>cases x with
    | c c=>intro h2;rw[LI h2]
    | _=>intro h2;simp[Ez]at h2
   | _=>intro h2;simp[Ez]at h2
  exact⟨σ',fun C a w r=>h3 C a w (J7 h1 ht C a w r),h4⟩
 | .cell i j ag sz e::r,σ,h=>by
  obtain⟨h1,h⟩:=AA.1 h
  split at h
  ·rename_i cs hi
   obtain⟨h2,h⟩:=AA.1 h
   obtain⟨σ',h3,h4⟩:=Hj h
   exact⟨σ',fun C a w r=>h3 C a w (J8 h1 hi (Hi h2) C a w r),h4⟩
  ·exact h.elim
theorem A8.trans {a b c:St}(h1:A8 a b) (h2:A8 b c):A8 a c:=fun C x w r=>h2 C x w (h1 C x w r)
theorem A8.refl (a:St):A8 a a:=fun _ _ _ r=>r
end Go.AM
namespace Go.AM
open Go Go.RowKit
def Yx (c:CV) (j:Id) (n:Nat):CV:=
 match c with
 | .d (.list ag sz rows)=>match Nat.beq rows.length n with
  | true=>.d (.list ag sz rows)
  | false=>.sl j n
 | _=>.sl j n
def CV.sub (x:CV) (i:Id) (c:CV):CV:=
 match x with
 | .ow j=>match Id.beq j i with
  | true=>c
  | false=>.ow j
 | .sl j n=>match Id.beq j i with
  | true=>Yx c j n
  | false=>.sl j n
 | x=>x
def isM (i:Id) (c:CV):CV→Prop
 | .ow j=>j=i
 | .sl j n=>j=i∧∃ag sz rows,c= .d (.list ag sz rows)∧rows.length=n
 | _=>False
def TM (i:Id) (c:CV):List CV→List CV
 | []=>[]
 | x::r=>x.sub i c::TM i c r
def V1.sub (i:Id) (c:CV) (x:V1):V1:=
 match x with
 | .d x=>.d x
 | .c x=>match x.sub i c with
  | .d y=>.d y
  | y=>.c y
 | .agg cs=>.agg (TM i c cs)
def cQ (i:Id) (c:CV):List V1→List V1
 | []=>[]
 | x::r=>x.sub i c::cQ i c r
def AV.sub (i:Id) (c:CV) (x:AV):AV:=
 match x with
 | .u=>.u
 | .v x=>.v (x.sub i c)
 | .t xs=>.t (cQ i c xs)
 | .df f cs rows=>.df f cs rows
def AB.sub (i:Id) (c:CV) (o:AB):AB:=
 match o with
 | .cells cs=>.cells (TM i c cs)
 | .tree kd ag sz rows foc=>.tree kd ag sz rows (match foc with
  | some x=>some (x.1,TM i c x.2)
  | none=>none)
 | o=>o
theorem G4 {i:Id}{c:CV}:∀{l:List CV},TM i c l=l.map (fun x=>x.sub i c)
 | []=>rfl
 | x::l=>by simp[TM,G4 (l:=l)]
theorem Q0 {i:Id}{c:CV}:∀{l:List V1},cQ i c l=l.map (V1.sub i c)
 | []=>rfl
 | x::l=>by simp[cQ,Q0 (l:=l)]
section
variable {C:Cx}{F:Nat→Prop}{s:AN}{h:AE}{g:AL}{a:Act}{w:World}
theorem J9 {w':World}{Z Z':Ad}{g':AL}{h':AE}{i:Id}{c:CV}(hE:∀{x:CV}{v:Value},Au w Z g h x v→Au w' Z' g' h' x v) (hc:∀x v,isM i c x→Au w Z g h x v→Au w' Z' g' h' c v) {x:CV}{v:Value}(r:Au w Z g h x v):
  Au w' Z' g' h' (x.sub i c) v:=by
 unfold CV.sub
 split
 ·rename_i j
  cases e:Id.beq j i with
  | true=>exact hc (.ow j) v (Id.beq_iff.1 e:j=i) r
  | false=>exact hE r
 ·rename_i j n
  cases e:Id.beq j i with
  | true=>
   show Au w' Z' g' h' (Yx c j n) v
   unfold Yx
   split
   ·rename_i ag sz rows
    cases e2:Nat.beq rows.length n with
    | true=>exact hc (.sl j n) v ⟨Id.beq_iff.1 e,ag,sz,rows,rfl,Nat.eq_of_beq_eq_true e2⟩ r
    | false=>exact hE r
   ·exact hE r
  | false=>exact hE r
 ·exact hE r
theorem Po {w':World}{Z Z':Ad}{g':AL}{h':AE}{i:Id}{c:CV}(hE:∀{x:CV}{v:Value},Au w Z g h x v→Au w' Z' g' h' x v) (hD:∀{x:D}{v:Value},AX w Z x v→AX w' Z' x v) (hc:∀x v,isM i c x→Au w Z g h x v→Au w' Z' g' h' c v) {x:V1}{v:Value}(r:Ag w Z g h x v):
  Ag w' Z' g' h' (x.sub i c) v:=by
 cases x with
 | d x=>exact hD r
 | c x=>
  have:=J9 hE hc (x:=x) r
  show Ag w' Z' g' h' (match x.sub i c with | .d y=>.d y | y=>.c y) v
  split
  ·rename_i y hy
   rw[hy]at this
   exact this.1
  ·exact this
 | agg cs=>
  obtain⟨vs,hv,hs,hr⟩:=r
  refine⟨vs,hv,by rw[G4];simpa using hs,fun j y u hy hu=>?_⟩
  rw[G4,List.getElem?_map,Option.map_eq_some_iff]at hy
  obtain⟨x,hx,rfl⟩:=hy
  exact J9 hE hc (hr j x u hx hu)
theorem XA {w':World}{Z Z':Ad}{g':AL}{h':AE}{i:Id}{c:CV}(hE:∀{x:CV}{v:Value},Au w Z g h x v→Au w' Z' g' h' x v) (hD:∀{x:D}{v:Value},AX w Z x v→AX w' Z' x v) (hc:∀x v,isM i c x→Au w Z g h x v→Au w' Z' g' h' c v) {x:AV}{v:Value}(r:An w Z g h x v):
  An w' Z' g' h' (x.sub i c) v:=by
 cases x with
 | u=>trivial
 | v x=>exact Po hE hD hc r
 | t xs=>
  obtain⟨vs,hv,hs,hr⟩:=r
  refine⟨vs,hv,by rw[Q0];simpa using hs,fun j y u hy hu=>?_⟩
  rw[Q0,List.getElem?_map,Option.map_eq_some_iff]at hy
  obtain⟨x,hx,rfl⟩:=hy
  exact Po hE hD hc (hr j x u hx hu)
 | df f cs rows=>trivial
def CW (h:AE) (i:Id) (c:CV) (nw:Option (Nat×AB)):AE:=fun j=>
 match nw with
 | some (n,o)=>if j= .loc n then some o else if j=i then some .gone else (h j).map (AB.sub i c)
 | none=>if j=i then some .gone else (h j).map (AB.sub i c)
def CX (g:AL) (i:Id) (nw:Option (Nat×AB)):AL:=
 match nw with
 | some (n,_)=>Ah g (.loc n) (g i)
 | none=>g
theorem TN {i:Id}{c:CV}{gv:Value}{o:AB}{b p:Nat}:BL gv (o.sub i c) b p↔BL gv o b p:=by
 cases o<;>exact Iff.rfl
theorem Mf {i:Id}{c:CV}{gv:Value}{o:AB}{b:Nat}:EM gv (o.sub i c) b↔EM gv o b:=by
 cases o<;>exact Iff.rfl
theorem Yy {i:Id}{c:CV}{o:Option AB}:isLive (o.map (AB.sub i c))=isLive o:=by
 cases o with
 | none=>rfl
 | some o=>cases o<;>rfl
theorem AR.swap (R:AR C F s h g a w) {i:Id}{ob:AB}(hi:h i=some ob) (hob:B7 ob) {c:CV}{nw:Option (Nat×AB)}(hnw:∀n o,nw=some (n,o)→F n∧o=ob) {F':Nat→Prop}(hF:∀k,F' k→F k∧∀n o,nw=some (n,o)→k≠n)
  (hc:(∀b o,Al (zone (CX g i nw) (CW h i c nw)) C.X b o→Al (zone g h) C.X b o)→(nw=none→∀b o,BC (g i) b→¬Al (zone (CX g i nw) (CW h i c nw)) C.X b o)→
   ∀x v,isM i c x→Au w (Al (zone g h) C.X) g h x v→Au w (Al (zone (CX g i nw) (CW h i c nw)) C.X) (CX g i nw) (CW h i c nw) c v):
  AR C F' (fun t=>(s t).sub i c) (CW h i c nw) (CX g i nw) a w:=by
 -- what lies where
 have hn:∀n o,nw=some (n,o)→g (.loc n)=undef∧h (.loc n)=none:=fun n o e=>R.free n (hnw n o e).1
 have gsm:∀j,(∀n o,nw=some (n,o)→j≠ .loc n)→CX g i nw j=g j:=by
  intro j hj
  unfold CX
  split
  ·rename_i n o
   simp[Ah,hj n o rfl]
  ·rfl
 have gne:∀j,g j≠undef→CX g i nw j=g j:=fun j hj=>gsm j fun n o e hjn=>hj (hjn▸(hn n o e).1)
 have cases_:∀j o,CW h i c nw j=some o→(∃n,nw=some (n,o)∧j= .loc n∧o=ob∧CX g i nw j=g i)∨(j=i∧o= .gone)∨(j≠i∧∃o0,h j=some o0∧o=o0.sub i c∧CX g i nw j=g j):=by
  intro j o hj
  have other:(∀n o,nw=some (n,o)→j≠ .loc n)→(if j=i then some AB.gone else (h j).map (AB.sub i c))=some o→(j=i∧o= .gone)∨(j≠i∧∃o0,h j=some o0∧o=o0.sub i c∧CX g i nw j=g j):=by
   intro hj' hj
   split at hj
   ·cases hj;exact .inl ⟨by assumption,rfl⟩
   ·rename_i hne
    obtain⟨o0,h1,h2⟩:=Option.map_eq_some_iff.1 hj
    exact .inr ⟨hne,o0,h1,h2.symm,gsm j hj'⟩
  unfold CW at hj
  split at hj
  ·rename_i n o'
   split at hj
   ·rename_i hjn
    cases hj
    subst hjn
    exact .inl ⟨n,rfl,rfl,(hnw n _ rfl).2,by simp[CX,Ah]⟩
   ·rename_i hjn
    exact .inr (other (by rintro n' o'' e;cases e;exact hjn) hj)
  ·exact .inr (other (by rintro n' o'' e;cases e) hj)
 have hz1:∀j o b p,CW h i c nw j=some o→BL (CX g i nw j) o b p→∃j' o',h j'=some o'∧BL (g j') o' b p∧(j'=j∨j'=i):=by
  intro j o b p hj hb
  rcases cases_ j o hj with⟨n,_,_,rfl,hg⟩ | ⟨rfl,rfl⟩ | ⟨_,o0,h1,rfl,hg⟩
  ·rw[hg]at hb
   exact⟨i,_,hi,hb,.inr rfl⟩
  ·exact hb.elim
  ·rw[hg]at hb
   exact⟨j,o0,h1,TN.1 hb,.inl rfl⟩
 have hz:∀b o,Al (zone (CX g i nw) (CW h i c nw)) C.X b o→Al (zone g h) C.X b o:=by
  rintro b p (⟨j,o,hj,hb⟩ | hx)
  ·obtain⟨j',o',h1,h2,_⟩:=hz1 j o b p hj hb
   exact .inl ⟨j',o',h1,h2⟩
  ·exact .inr hx
 have hgone:nw=none→∀b o,BC (g i) b→¬Al (zone (CX g i nw) (CW h i c nw)) C.X b o:=by
  rintro e b p hb (⟨j,o,hj,h1⟩ | hx)
  ·rcases cases_ j o hj with⟨n,e',_⟩ | ⟨rfl,rfl⟩ | ⟨hne,o0,h2,rfl,hg⟩
   ·rw[e]at e';cases e'
   ·exact h1.elim
   ·rw[hg]at h1
    exact hne (R.heap.sep j i o0 ob b h2 hi (TN.1 h1).F7 (hob.F7 hb))
  ·exact R.heap.apart i _ b p hi (hob.F7 hb) hx
 have E:Gp w (Al (zone g h) C.X) g h w (Al (zone (CX g i nw) (CW h i c nw)) C.X) (CX g i nw) (CW h i c nw):=by
  refine⟨fun b o u hu hx=>⟨hu,fun hy=>hx (hz b o hy)⟩,fun j b hb=>gne j (by rw[hb];simp[undef]),fun j q hq=>gne j (by rw[hq];simp[undef]),fun j hj=>?_,fun j k sz e hj hk=>?_,fun j hj=>?_,fun j hj hl=>?_⟩
  ·rw[gne j (fun e=>by rw[e]at hj;exact hj)];exact hj
  ·have e1:=gne j (fun e=>by rw[e]at hj;exact hj)
   rcases cases_ j _ hk with⟨n,e',rfl,_,_⟩ | ⟨_,h2⟩ | ⟨_,o0,h2,h3,_⟩
   ·rw[(hn n _ e').1]at hj;exact hj.elim
   ·cases h2
   ·cases o0<;>simp[AB.sub]at h3
    obtain⟨rfl,rfl,rfl⟩:=h3
    exact⟨_,Nat.le_refl _,h2,fun _=>e1⟩
  ·rw[gne j (fun e=>Aw (e▸hj))];exact hj
  ·refine⟨?_,by rw[gne j (fun e=>Aw (e▸hj))]⟩
   cases ho:CW h i c nw j with
   | none=>rw[ho]at hl;cases hl
   | some o=>
    rw[ho]at hl
    rcases cases_ j o ho with⟨n,e',rfl,_,_⟩ | ⟨_,rfl⟩ | ⟨_,o0,h2,rfl,_⟩
    ·rw[(hn n _ e').1]at hj;exact (Aw hj).elim
    ·cases hl
    ·rw[h2,←Yy (i:=i) (c:=c)];exact hl
 have hcc:=hc hz hgone
 have objs:∀j o,CW h i c nw j=some o→BH w (Al (zone (CX g i nw) (CW h i c nw)) C.X) (CX g i nw) (CW h i c nw) o (CX g i nw j):=by
  intro j o hj
  rcases cases_ j o hj with⟨n,_,_,rfl,hg⟩ | ⟨rfl,rfl⟩ | ⟨_,o0,h1,rfl,hg⟩
  ·rw[hg]
   exact (R.heap.objs i _ hi).mM E fun _ _=>rfl
  ·trivial
  ·rw[hg]
   cases o0 with
   | cells cs=>
    obtain⟨b,cc,e,h2,h3,h4,h5⟩:=R.heap.objs j _ h1
    refine⟨b,cc,e,h2,h3,by rw[G4];simpa using h4,fun q x u hx hu=>?_⟩
    rw[G4,List.getElem?_map,Option.map_eq_some_iff]at hx
    obtain⟨y,hy,rfl⟩:=hx
    exact J9 E.IJ hcc (h5 q y u hy hu)
   | tree kd ag sz rows foc=>
    cases foc with
    | none=>exact (R.heap.objs j _ h1).mM E fun _ _=>rfl
    | some x=>
     obtain⟨k,cs⟩:=x
     obtain⟨ht,h0,hf,xs,hx,hcs,U,T,p1,p2,p3,p4,p5⟩:=R.heap.objs j _ h1
     have sk:∀{i':Nat},(∀k' cs',(some (k,TM i c cs):Option (Nat×List CV))=some (k',cs')→i'≠k')→∀k' cs',(some (k,cs):Option (Nat×List CV))=some (k',cs')→i'≠k':=by
      intro i' hi k' cs' e
      cases e
      exact hi k _ rfl
     have sk':∀{i':Nat},(∀k' cs',(some (k,cs):Option (Nat×List CV))=some (k',cs')→i'≠k')→∀k' cs',(some (k,TM i c cs):Option (Nat×List CV))=some (k',cs')→i'≠k':=by
      intro i' hi k' cs' e
      cases e
      exact hi k _ rfl
     refine⟨ht,h0,hf,xs,hx,fun k' cs' e=>?_,U,T,fun i' r jj d hi hr hd=>⟨(p1 i' r jj d (sk hi) hr hd).1,(p1 i' r jj d (sk hi) hr hd).2.map E.Er id⟩,fun i' jj b hb=>⟨sk' (p2 i' jj b hb).1,(p2 i' jj b hb).2⟩,p3,p4,p5⟩
     cases e
     obtain⟨g1,g2,g3⟩:=hcs k cs rfl
     refine⟨g1,by rw[G4];simpa using g2,fun q x u hx hu=>?_⟩
     rw[G4,List.getElem?_map,Option.map_eq_some_iff]at hx
     obtain⟨y,hy,rfl⟩:=hx
     exact J9 E.IJ hcc (g3 q y u hy hu)
   | _=>exact (R.heap.objs j _ h1).mM E fun _ _=>rfl
 have hsep:∀j j' oi oj b,CW h i c nw j=some oi→CW h i c nw j'=some oj→EM (CX g i nw j) oi b→EM (CX g i nw j') oj b→j=j':=by
  intro j j' oi oj b h1 h2 h3 h4
  rcases cases_ j oi h1 with⟨n,e,rfl,rfl,hg⟩ | ⟨rfl,rfl⟩ | ⟨hne,o0,h5,rfl,hg⟩
  ·rcases cases_ j' oj h2 with⟨n',e',rfl,_,_⟩ | ⟨rfl,rfl⟩ | ⟨hne',o0',h5',rfl,hg'⟩
   ·rw[e]at e';cases e';rfl
   ·exact h4.elim
   ·rw[hg]at h3
    rw[hg']at h4
    exact absurd (R.heap.sep i j' _ _ b hi h5' h3 (Mf.1 h4)).symm hne'
  ·exact h3.elim
  ·rw[hg]at h3
   rcases cases_ j' oj h2 with⟨n',e',rfl,rfl,hg'⟩ | ⟨rfl,rfl⟩ | ⟨hne',o0',h5',rfl,hg'⟩
   ·rw[hg']at h4
    exact absurd (R.heap.sep j i _ _ b h5 hi (Mf.1 h3) h4) hne
   ·exact h4.elim
   ·rw[hg']at h4
    exact R.heap.sep j j' _ _ b h5 h5' (Mf.1 h3) (Mf.1 h4)
 have RS:=R.step (F':=F') (fun _=>True) E ⟨rfl,rfl,rfl,Nat.le_refl _,fun _ _ _=>rfl,fun _ _ _ hu _=>hu⟩ (fun j hj=>absurd trivial hj) (fun _ _ _ hj=>absurd trivial hj) (fun j o _ hj=>objs j o hj)
  (fun j o b p _ hj hb=>let ⟨j',o',h1,h2,_⟩:=hz1 j o b p hj hb;.inl ⟨j',o',trivial,h1,h2⟩) (fun j j' oi oj b _ _ h1 h2 h3 h4=>hsep j j' oi oj b h1 h2 h3 h4) (fun j _=>by rw[gsm (.ext j) (by rintro n o _ e;cases e)];exact .refl _)
  (fun k hk=>by
   obtain⟨h1,h2⟩:=hF k hk
   obtain⟨h3,h4⟩:=R.free k h1
   have hne:∀n o,nw=some (n,o)→Id.loc k≠ .loc n:=fun n o e h=>h2 n o e (by cases h;rfl)
   refine⟨(gsm _ hne).trans h3,?_⟩
   cases ho:CW h i c nw (.loc k)with
   | none=>rfl
   | some o=>
    rcases cases_ _ o ho with⟨n,e,e',_⟩ | ⟨e,_⟩ | ⟨_,o0,h5,_⟩
    ·exact absurd e' (hne n _ e)
    ·rw[←e,h4]at hi;cases hi
    ·rw[h4]at h5;cases h5)
 have hdf:DH w (Al (zone (CX g i nw) (CW h i c nw)) C.X) (CX g i nw) C.M.cl ((s DT).sub i c) a.defers C.D:=by
  cases he:s DT with
  | df f cs rows=>rw[←he];have:=RS.defers;rw[he]at this ⊢;exact this
  | _=>exact R.defers.un (by simp[AV.sub])
 exact {RS with slots:=fun t=>XA E.IJ E.Er hcc (R.slots t),defers:=hdf}
def TO (i:Id) (c:CV):List (Nat×AV)→List (Nat×AV)
 | []=>[]
 | (t,v)::r=>(t,v.sub i c)::TO i c r
def Nv (i:Id) (c:CV):List (Id×AB)→List (Id×AB)
 | []=>[]
 | (j,o)::r=>(j,o.sub i c)::Nv i c r
theorem JM {i:Id}{c:CV}:∀{l:List (Nat×AV)}{t:Nat},AH (TO i c l) t=(AH l t).sub i c
 | [],t=>rfl
 | (k,v)::r,t=>by
  show (match Nat.beq k t with | true=>v.sub i c | false=>AH (TO i c r) t)=(match Nat.beq k t with | true=>v | false=>AH r t).sub i c
  cases Nat.beq k t with
  | true=>rfl
  | false=>exact JM
theorem JN {i:Id}{c:CV}:∀{l:List (Id×AB)}{j:Id},AK (Nv i c l) j=(AK l j).map (AB.sub i c)
 | [],j=>rfl
 | (k,v)::r,j=>by
  show (match Id.beq k j with | true=>some (v.sub i c) | false=>AK (Nv i c r) j)=(match Id.beq k j with | true=>some v | false=>AK r j).map (AB.sub i c)
  cases Id.beq k j with
  | true=>rfl
  | false=>exact JN
def Nw (i:Id) (x:D) (σ:St):St:=⟨TO i (.d x) σ.slots,CR (Nv i (.d x) σ.heap) i .gone,σ.next⟩
def Us (i:Id) (o:AB) (σ:St):St:=⟨TO i (.ow (.loc σ.next)) σ.slots,CR (CR (Nv i (.ow (.loc σ.next)) σ.heap) i .gone) (.loc σ.next) o,σ.next+32⟩
theorem Pp {σ:St}{i:Id}{x:D}{ob:AB}(hi:AK σ.heap i=some ob) (hob:B7 ob)
  (hr:∀{C:Cx} {g:AL} {w:World},C9 w C.X g (AK σ.heap)→(∀b o,Al (zone g (CW (AK σ.heap) i (.d x) none)) C.X b o→Al (zone g (AK σ.heap)) C.X b o)→(∀b o,BC (g i) b→¬Al (zone g (CW (AK σ.heap) i (.d x) none)) C.X b o)→
   ∀y v,isM i (.d x) y→Au w (Al (zone g (AK σ.heap)) C.X) g (AK σ.heap) y v→AX w (Al (zone g (CW (AK σ.heap) i (.d x) none)) C.X) x v∧x.isAgg=false):A8 σ (Nw i x σ):=by
 rintro C a w ⟨g,R⟩
 have R2:=R.swap (F':=fun n=>σ.next≤n) hi hob (c:=.d x) (nw:=none) (fun _ _ e=>by cases e) (fun k hk=>⟨hk,fun _ _ e=>by cases e⟩) (fun hz hg y v hm r=>hr R.heap hz (hg rfl) y v hm r)
 refine⟨g,?_⟩
 have e1:AH (Nw i x σ).slots=fun t=>(AH σ.slots t).sub i (.d x):=by funext t;exact JM
 have e2:AK (Nw i x σ).heap=CW (AK σ.heap) i (.d x) none:=by
  funext j
  show AK (CR (Nv i (.d x) σ.heap) i .gone) j=_
  rw[Bh]
  simp only[AJ,CW,JN]
 show AR C (fun n=>σ.next≤n) (AH (Nw i x σ).slots) (AK (Nw i x σ).heap) g a w
 rw[e1,e2]
 exact R2
theorem TP {σ:St}{i:Id}{kd:Kd}{ag:Bool}{sz:Nat}{rows:List D}(hi:AK σ.heap i=some (.tree kd ag sz rows none)) (hk:kd= .row∨kd= .flat):A8 σ (Nw i (.list ag sz rows) σ):=by
 refine Pp hi trivial fun RH hz hg y v hm r=>⟨?_,rfl⟩
 rename_i C g w
 have ho:=RH.objs i _ hi
 have hv:v=gval (g i):=by
  cases y<;>first | exact (hm:False).elim | skip
  ·rename_i j n
   obtain⟨rfl,_⟩:=hm
   obtain⟨⟨b,hb⟩,_⟩:=r
   obtain⟨vs,_,h1,_⟩:=ho.1
   rw[hb]at h1;cases h1
  ·rename_i j
   obtain rfl:j=i:=hm
   exact r.2.2 (by rw[hi];rfl)
 rw[hv]
 obtain⟨ht,h0,hf,xs,hx,_,U,T,h1,h2,h3,h4,h5⟩:=ho
 rcases hk with rfl | rfl
 ·exact ((Jj (show I8 .row ag sz rows=some (.list ag sz rows)from rfl)).1 (RH.objs i _ hi)).2.nI hg
 ·obtain⟨e,hl,hx⟩:=hx
  rcases hx with⟨hv,hn⟩ | ⟨q,cap,cur,hv,_,hh,hnc,hcm,hcs,htake⟩
  ·have:rows=[]:=List.eq_nil_of_length_eq_zero hn
   subst this
   rw[hv]
   exact .list ag sz [] none 0 0 0 (fun _ _=>undef) (Nat.le_refl _) (Nat.zero_le _) (by simp) (by simp) (by simp) (by simp)
  ·rw[hv]
   refine .list ag sz rows _ cap q 0 U hnc hcm hf (fun _=>rfl) (fun k r j c hr hc=>?_) (fun k r j c hr hc=>?_)
   ·obtain⟨p1,_⟩:=h1 k r j c (fun _ _ h=>by cases h) hr hc
    refine⟨?_,fun hz'=>hg q _ ((h5 q).2 (.inl (by rw[hv];rfl))) hz'⟩
    rw[←htake,List.getElem?_take]at p1
    split at p1
    ·rw[Nat.zero_add]
     simpa [World.cell?,hh] using p1
    ·cases p1
   ·obtain⟨_,p2⟩:=h1 k r j c (fun _ _ h=>by cases h) hr hc
    exact (((Cs.fz rfl).1 p2).1.1).mono fun b o u hu hn=>⟨hu,fun hz'=>hn (hz b o hz')⟩
theorem XB {σ:St}{i:Id}{kd:Kd}{ag:Bool}{sz:Nat}{rows:List D}(hi:AK σ.heap i=some (.tree kd ag sz rows none)):A8 σ (Us i (.tree kd ag sz rows none) σ):=by
 rintro C a w ⟨g,R⟩
 have hn:=R.free σ.next (Nat.le_refl _)
 have R2:=R.swap (F':=fun n=>σ.next+32≤n) hi trivial (c:=.ow (.loc σ.next)) (nw:=some (σ.next,.tree kd ag sz rows none)) (fun _ _ e=>by cases e;exact⟨Nat.le_refl _,rfl⟩) (fun k hk=>⟨by omega,fun _ _ e=>by cases e;omega⟩) (fun hz hg y v hm r=>by
  have ho:=R.heap.objs i _ hi
  have hv:v.oneCell'=true∧v=gval (g i):=by
   cases y<;>first | exact (hm:False).elim | skip
   ·rename_i j n
    obtain⟨rfl,_⟩:=hm
    obtain⟨⟨b,hb⟩,_⟩:=r
    obtain⟨vs,_,h1,_⟩:=ho.1
    rw[hb]at h1;cases h1
   ·rename_i j
    obtain rfl:j=i:=hm
    exact⟨r.1,r.2.2 (by rw[hi];rfl)⟩
  have e:CX g i (some (σ.next,.tree kd ag sz rows none)) (.loc σ.next)=g i:=by simp[CX,Ah]
  refine⟨hv.1,by rw[e];exact ho.1,fun _=>by rw[e];exact hv.2⟩)
 refine⟨CX g i (some (σ.next,.tree kd ag sz rows none)),?_⟩
 have e1:AH (Us i (.tree kd ag sz rows none) σ).slots=fun t=>(AH σ.slots t).sub i (.ow (.loc σ.next)):=by funext t;exact JM
 have e2:AK (Us i (.tree kd ag sz rows none) σ).heap=CW (AK σ.heap) i (.ow (.loc σ.next)) (some (σ.next,.tree kd ag sz rows none)):=by
  funext j
  show AK (CR (CR (Nv i (.ow (.loc σ.next)) σ.heap) i .gone) (.loc σ.next) (.tree kd ag sz rows none)) j=_
  rw[Bh,Bh]
  simp only[AJ,CW,JN]
 show AR C (fun n=>σ.next+32≤n) (AH (Us i (.tree kd ag sz rows none) σ).slots) (AK (Us i (.tree kd ag sz rows none) σ).heap) _ a w
 rw[e1,e2]
 exact R2
def Nx:List CV→Option (List D)
 | []=>some []
 | x::r=>match x with
  | .d d=>match Nx r with
   | some l=>some (d::l)
   | none=>none
  | .nils ag sz=>match Nx r with
   | some l=>some (.list ag sz []::l)
   | none=>none
  | _=>none
theorem LJ {w:World}{Z:Ad}{g:AL}{h:AE}:∀{cs:List CV}{ds:List D},Nx cs=some ds→ds.length=cs.length∧∀(j:Nat) c d v,cs[j]?=some c→ds[j]?=some d→Au w Z g h c v→AX w Z d v∧d.isAgg=false
 | [],ds,h=>by cases h;simp
 | x::r,ds,h=>by
  unfold Nx at h
  split at h
  ·split at h
   ·rename_i d _ l hl
    cases h
    obtain⟨h1,h2⟩:=LJ (w:=w) (Z:=Z) (g:=g) (h:=‹AE›) hl
    refine⟨by simp[h1],fun j c d v hc hd hr=>?_⟩
    match j with
    | 0=>simp at hc hd;subst hc;subst hd;exact hr
    | j+1=>exact h2 j c d v (by simpa using hc) (by simpa using hd) hr
   ·cases h
  ·split at h
   ·rename_i ag sz _ l hl
    cases h
    obtain⟨h1,h2⟩:=LJ (w:=w) (Z:=Z) (g:=g) (h:=‹AE›) hl
    refine⟨by simp[h1],fun j c d v hc hd hr=>?_⟩
    match j with
    | 0=>
     simp at hc hd;subst hc;subst hd
     rw[show v=_ from hr]
     exact⟨FD _ _,rfl⟩
    | j+1=>exact h2 j c d v (by simpa using hc) (by simpa using hd) hr
   ·cases h
  ·cases h
theorem Q1 {σ:St}{i:Id}{cs:List CV}{ds:List D}{ag:Bool}{sz n:Nat}(hi:AK σ.heap i=some (.cells cs)) (hd:Nx cs=some ds) (hn:n*sz=ds.length) (hsz:0<sz) (hag:ag=false→sz=1) (hm0:n≤maxLen):
  A8 σ (Nw i (.list ag sz (rowsOf ag sz n ds)) σ):=by
 refine Pp hi trivial fun RH hz hg y v hm r=>⟨?_,rfl⟩
 rename_i C g w
 obtain⟨b,c,e,hb,hh,hs,hr⟩:=RH.objs i _ hi
 obtain⟨hl,hrel⟩:=LJ (w:=w) (Z:=Al (zone g (AK σ.heap)) C.X) (g:=g) (h:=AK σ.heap) hd
 have hv:v= .slice (some ⟨b,0,none⟩) (rowsOf ag sz n ds).length n:=by
  cases y<;>first | exact (hm:False).elim | skip
  ·rename_i j n'
   obtain⟨rfl,ag',sz',rows',e1,e2⟩:=hm
   cases e1
   rw[D2]at e2 ⊢
   subst e2
   obtain⟨_,h2⟩:=r
   rw[hb]at h2
   exact h2
  ·rename_i j
   obtain rfl:j=i:=hm
   obtain⟨vs,_,h1,_⟩:=r.2.1
   rw[hb]at h1;cases h1
 rw[hv]
 -- a row's cells
 have row:∀(k:Nat) x,(rowsOf ag sz n ds)[k]?=some x→k<n∧x.cells=(ds.drop (k*sz)).take sz∧x.isAgg=ag∧((ds.drop (k*sz)).take sz).length=sz∧∀d∈(ds.drop (k*sz)).take sz,d.isAgg=false:=by
  intro k x hx
  obtain⟨hk,rfl⟩:=D1 hx
  have hlen:((ds.drop (k*sz)).take sz).length=sz:=by
   rw[List.length_take,List.length_drop]
   have:=Nat.mul_le_mul_right sz (show k+1≤n from hk)
   rw[Nat.add_mul]at this
   omega
  have hno:∀d∈(ds.drop (k*sz)).take sz,d.isAgg=false:=by
   intro d hd'
   have hmem:d∈ds:=List.mem_of_mem_drop (List.mem_of_mem_take hd')
   obtain⟨q,hq⟩:=List.mem_iff_getElem?.1 hmem
   have hlt:=(List.getElem?_eq_some_iff.1 hq).1
   have hq':q<cs.length:=by omega
   have hqc:q<c.size:=by omega
   exact (hrel q cs[q] d c[q] (List.getElem?_eq_getElem hq') hq (hr q cs[q] c[q] (List.getElem?_eq_getElem hq') (by simp[hqc]))).2
  obtain⟨r1,r2⟩:=EV hno (fun e=>by rw[hlen];exact hag e)
  exact⟨hk,r1,r2,hlen,hno⟩
 have cell:∀(k:Nat) x (j:Nat) d,(rowsOf ag sz n ds)[k]?=some x→x.cells[j]?=some d→∃u,c[k*sz+j]?=some u∧AX w (Al (zone g (AK σ.heap)) C.X) d u:=by
  intro k x j d hx hj
  obtain⟨hk,r1,_,r4,_⟩:=row k x hx
  rw[r1,List.getElem?_take]at hj
  split at hj
  ·rename_i hjs
   rw[List.getElem?_drop]at hj
   have hlt:=(List.getElem?_eq_some_iff.1 hj).1
   have hq':k*sz+j<cs.length:=by omega
   have hqc:k*sz+j<c.size:=by omega
   exact⟨c[k*sz+j],by simp[hqc],(hrel _ cs[k*sz+j] d c[k*sz+j] (List.getElem?_eq_getElem hq') hj (hr _ cs[k*sz+j] c[k*sz+j] (List.getElem?_eq_getElem hq') (by simp[hqc]))).1⟩
  ·cases hj
 refine .list ag sz (rowsOf ag sz n ds) _ n b 0 (fun k j=>c.getD (k*sz+j) undef) (by rw[D2];exact Nat.le_refl _) hm0 (fun x hx=>?_) (fun _=>rfl) (fun k x j d hx hj=>?_) (fun k x j d hx hj=>?_)
 ·obtain⟨k,hk⟩:=List.mem_iff_getElem?.1 hx
  obtain⟨_,r1,r2,r4,r5⟩:=row k x hk
  exact⟨r2,by rw[r1];exact r4,by rw[r1];exact r5⟩
 ·obtain⟨u,hu,_⟩:=cell k x j d hx hj
  refine⟨?_,fun hz'=>hg b _ (by rw[hb];exact .inl rfl) hz'⟩
  rw[Nat.zero_add]
  simp[World.cell?,hh,hu]
 ·obtain⟨u,hu,hrd⟩:=cell k x j d hx hj
  rw[show c.getD (k*sz+j) undef=u by simp[hu]]
  exact hrd.mono fun b o u hu hn=>⟨hu,fun hz'=>hn (hz b o hz')⟩
end
end Go.AM
namespace Go.AM
open Go Go.RowKit
theorem AR.bF {C:Cx}{F:Nat→Prop}{s:AN}{h:AE}{g:AL}{a:Act}{w:World}(R:AR C F s h g a w) {n:Nat}(hf:F n) (ag:Bool) {sz:Nat}(hsz:0<sz):
  ∃g',AR C (fun k=>F k∧k≠n) s (AJ h (.loc n) (.tree .row ag sz [] none)) g' a w∧Au w (Al (zone g' (AJ h (.loc n) (.tree .row ag sz [] none))) C.X) g' (AJ h (.loc n) (.tree .row ag sz [] none)) (.ow (.loc n)) (.slice none 0 0):=
 R.SR (T0:=[]) (by simp) hf ⟨rfl,rfl,rfl,Nat.le_refl _⟩ (fun _ _ _=>rfl) hsz (⟨0,World.ownsRow_nil w 0 0 sz⟩:Holds w .row sz (.slice none 0 0) ([]:List D).length []) (Ej.nil w ag sz) (fun b hb=>hb.elim) (by simp[blk]) (by simp)
def KA (t:Nat) (ag:Bool) (sz:Nat) (σ:St):St:=
 ⟨(t,.v (.c (.ow (.loc σ.next))))::σ.slots,CR σ.heap (.loc σ.next) (.tree .row ag sz [] none),σ.next+32⟩
theorem PD {t:Nat}{ag:Bool}{sz:Nat}{σ:St}(hsz:Nat.blt 0 sz=true) (ht:AH σ.slots t= .v (.c (.nils ag sz))):A8 σ (KA t ag sz σ):=by
 rintro C a w ⟨g,R⟩
 have hv:=R.slots t
 rw[ht]at hv
 have hv:a.tmps.getD t undef= .slice none 0 0:=hv
 obtain⟨g',R',hl⟩:=R.bF (n:=σ.next) (Nat.le_refl _) ag (sz:=sz) (by simp[Nat.blt]at hsz;omega)
 have R2:=(R'.Ls t (.v (.c (.ow (.loc σ.next)))) (by rw[hv];exact hl)).AW (F':=fun n=>σ.next+32≤n) (fun n hn=>⟨by omega,by omega⟩)
 refine⟨g',?_⟩
 simp only[KA,Ai,Bh]
 exact R2
def KB (i:Id) (j:Nat) (ag:Bool) (sz:Nat) (σ:St):St:=
 match AK σ.heap i with
 | some (.cells cs)=>⟨σ.slots,CR (CR σ.heap (.loc σ.next) (.tree .row ag sz [] none)) i (.cells (G3 cs j (.ow (.loc σ.next)))),σ.next+32⟩
 | _=>σ
theorem PE {i:Id}{j:Nat}{ag:Bool}{sz:Nat}{σ:St}{cs:List CV}(hsz:Nat.blt 0 sz=true) (hi:AK σ.heap i=some (.cells cs)) (hj:cs[j]?=some (.nils ag sz)):A8 σ (KB i j ag sz σ):=by
 rintro C a w ⟨g,R⟩
 obtain⟨g',R',hl⟩:=R.bF (n:=σ.next) (Nat.le_refl _) ag (sz:=sz) (by simp[Nat.blt]at hsz;omega)
 have hne:i≠ .loc σ.next:=by
  rintro rfl
  have:=(R.free σ.next (Nat.le_refl _)).2
  rw[this]at hi;cases hi
 have hi':AJ (AK σ.heap) (.loc σ.next) (.tree .row ag sz [] none) i=some (.cells cs):=by simp[AJ,hne,hi]
 obtain⟨b,c,et,hb,hh,hsz2,hr⟩:=R'.heap.objs i _ hi'
 have R2:=R'.store (cs':=cs.set j (.ow (.loc σ.next))) hi' hb hh (c':=c) (by simp[hsz2]) (fun k x u hx hu=>by
  by_cases hk:k=j
  ·subst hk
   have hlt:k<cs.length:=(List.getElem?_eq_some_iff.1 hj).1
   rw[List.getElem?_set_self hlt]at hx
   cases hx
   have:=hr k _ u hj hu
   rw[show u=_ from this]
   exact hl
  ·rw[List.getElem?_set_ne (by omega)]at hx
   exact hr k x u hx hu)
 have hw:w.setRow b c=w:=setRow_self w b c _ _ hh
 rw[hw]at R2
 have R3:=R2.AW (F':=fun n=>σ.next+32≤n) (fun n hn=>⟨by omega,by omega⟩)
 refine⟨g',?_⟩
 simp only[KB,hi,Bh,Gf]
 exact R3
theorem AR.flatten {C:Cx}{F:Nat→Prop}{s:AN}{h:AE}{g:AL}{a:Act}{w:World}(R:AR C F s h g a w) {i:Id}{ag:Bool}{sz:Nat}{rows:List D}(hi:h i=some (.tree .row ag sz rows none)):
  ∃g',AR C F s (AJ h i (.tree .flat ag sz rows none)) g' a w:=by
 obtain⟨ht,h0,hf,xs,hx,_,U,T,h1,h2,h3,h4,h5⟩:=R.heap.objs i _ hi
 obtain⟨gv,gt,gg,gb⟩:=MM (gval (g i)) (blk (gval (g i))).toList (fun b=>blk (gval (g i))=some b) (fun b hb=>by simp[hb])
 have hsub:∀b,BC gv b→BC (g i) b:=fun b hb=>(h5 b).2 (.inl ((gb b).1 hb))
 have hX:∀b o,BC (g i) b→¬BC gv b→¬Al (zone (Ah g i gv) (AJ h i (.tree .flat ag sz rows none))) C.X b o:=by
  rintro b o hb hnb (⟨j,ob,hj,h6⟩ | hx)
  ·by_cases hji:j=i
   ·subst hji
    simp only[AJ,if_pos,Option.some.injEq]at hj
    subst hj
    have h6:BC (Ah g j gv j) b:=h6
    simp only[Ah,if_pos]at h6
    exact hnb h6
   ·simp only[AJ,if_neg hji]at hj
    simp only[Ah,if_neg hji]at h6
    exact hji (R.heap.sep j i ob _ b hj hi h6.F7 hb)
  ·exact R.heap.apart i _ b o hi hb hx
 refine⟨Ah g i gv,R.Ks (fun j=>j=i) (fun j hj=>by simp[AJ,Ah,hj]) ?_ ?_ ?_ ?_ ?_ ?_ ?_ ?_⟩
 ·rintro j rfl
  exact .inr (.inl ⟨ht,by simpa [Ah] using gt,by simp[Ah,gg]⟩)
 ·rintro j rfl _ _
  rw[hi];rfl
 ·rintro j ob rfl ho
  simp only[AJ,if_pos,Option.some.injEq]at ho
  exact .inl ⟨_,_,_,_,_,ho.symm⟩
 ·rintro j o rfl ho EC ED
  simp only[AJ,if_pos,Option.some.injEq]at ho
  subst ho
  have e1:Ah g j gv j=gv:=by simp[Ah]
  rw[e1]
  refine Qo gt h0 hf (xs:=xs) (by rw[gg];exact hx) (fun k r q c hr hc=>?_) (fun b=>by rw[gb,gg])
  obtain⟨p1,p2⟩:=h1 k r q c (fun _ _ h=>by cases h) hr hc
  refine⟨_,p1,((Cs.own rfl).1 p2).nI fun b o hb=>hX b o ((h5 b).2 (.inr ⟨k,q,hb⟩)) fun hb'=>h3 k q b hb ((gb b).1 hb')⟩
 ·rintro j ob b rfl ho hb
  simp only[AJ,if_pos,Option.some.injEq]at ho
  subst ho
  have hb:BC (Ah g j gv j) b:=hb
  simp only[Ah,if_pos]at hb
  exact⟨j,_,rfl,hi,fun o=>hsub b hb⟩
 ·rintro j k _ _ _ rfl rfl _ _ _ _
  rfl
 ·rintro j rfl
  exact .inr ⟨ht,by simpa [Ah] using gt,by simp[Ah,gg]⟩
 ·intro n hn
  have:=R.free n hn
  have hne:Id.loc n≠i:=by rintro rfl;rw[this.2]at hi;cases hi
  exact⟨by simp[Ah,hne,this.1],by simp[AJ,hne,this.2]⟩
theorem Q2 {σ:St}{i:Id}{ag:Bool}{sz:Nat}{rows:List D}(hi:AK σ.heap i=some (.tree .row ag sz rows none)):A8 σ ⟨σ.slots,CR σ.heap i (.tree .flat ag sz rows none),σ.next⟩:=by
 rintro C a w ⟨g,R⟩
 obtain⟨g',R'⟩:=R.flatten hi
 refine⟨g',?_⟩
 rw[Bh]
 exact R'
theorem AR.drop {C:Cx}{F:Nat→Prop}{s:AN}{h:AE}{g:AL}{a:Act}{w:World}(R:AR C F s h g a w) {i:Id}{ob:AB}(hi:h i=some ob):AR C F s (AJ h i .gone) g a w:=by
 refine R.Ks (fun j=>j=i) (fun j hj=>by simp[AJ,hj]) ?_ ?_ ?_ ?_ ?_ ?_ ?_ ?_
 ·rintro j rfl
  exact .inl rfl
 ·rintro j rfl _ hl
  simp[AJ,isLive]at hl
 ·rintro j ob' rfl ho
  simp[AJ]at ho
  exact .inr ho.symm
 ·rintro j o rfl ho _ _
  simp[AJ]at ho
  subst ho
  trivial
 ·rintro j ob' b rfl ho hb
  simp[AJ]at ho
  subst ho
  exact hb.elim
 ·rintro j k _ _ _ rfl rfl _ _ _ _
  rfl
 ·intro j _
  exact .refl _
 ·intro n hn
  have:=R.free n hn
  have hne:Id.loc n≠i:=by rintro rfl;rw[this.2]at hi;cases hi
  exact⟨this.1,by simp[AJ,hne,this.2]⟩
theorem XC {σ:St}{i:Id}{ob:AB}(hi:AK σ.heap i=some ob):A8 σ ⟨σ.slots,CR σ.heap i .gone,σ.next⟩:=by
 rintro C a w ⟨g,R⟩
 refine⟨g,?_⟩
 rw[Bh]
 exact R.drop hi
def Mg (t:Nat) (cs:List CV) (j:Nat) (ag:Bool) (sz:Nat) (σ:St):St:=
 ⟨(t,.v (.agg (G3 cs j (.ow (.loc σ.next)))))::σ.slots,CR σ.heap (.loc σ.next) (.tree .row ag sz [] none),σ.next+32⟩
theorem Q3 {t j:Nat}{cs:List CV}{ag:Bool}{sz:Nat}{σ:St}(hsz:Nat.blt 0 sz=true) (ht:AH σ.slots t= .v (.agg cs)) (hj:cs[j]?=some (.nils ag sz)):A8 σ (Mg t cs j ag sz σ):=by
 rintro C a w ⟨g,R⟩
 obtain⟨g',R',hl⟩:=R.bF (n:=σ.next) (Nat.le_refl _) ag (sz:=sz) (by simp[Nat.blt]at hsz;omega)
 have hv:=R'.slots t
 rw[ht]at hv
 obtain⟨vs,hvs,hsz2,hr⟩:=hv
 have R2:=(R'.Ls t (.v (.agg (cs.set j (.ow (.loc σ.next))))) (by
  refine⟨vs,hvs,by simp[hsz2],fun k x u hx hu=>?_⟩
  by_cases hk:k=j
  ·subst hk
   have hlt:k<cs.length:=(List.getElem?_eq_some_iff.1 hj).1
   rw[List.getElem?_set_self hlt]at hx
   cases hx
   have:=hr k _ u hj hu
   rw[show u=_ from this]
   exact hl
  ·rw[List.getElem?_set_ne (by omega)]at hx
   exact hr k x u hx hu)).AW (F':=fun n=>σ.next+32≤n) (fun n hn=>⟨by omega,by omega⟩)
 refine⟨g',?_⟩
 simp only[Mg,Ai,Bh,Gf]
 exact R2
def FQ (h:AE):List Id→Option (List FC)
 | []=>some []
 | i::l=>match h i with
  | some (.cells cs)=>(match cs with
   | [.d x]=>(match FQ h l with
    | some r=>some (.d x::r)
    | none=>none)
   | [.ptr j 0]=>(match FQ h l with
    | some r=>some (.p j::r)
    | none=>none)
   | _=>none)
  | _=>none
def lI (h:AE) (i:Id):FC→Prop
 | .d x=>h i=some (.cells [.d x])
 | .p j=>h i=some (.cells [.ptr j 0])
 | .h=>False
theorem LK {h:AE}:∀{l:List Id}{cs:List FC},FQ h l=some cs→l.length=cs.length∧∀(j:Nat) i c,l[j]?=some i→cs[j]?=some c→lI h i c
 | [],cs,e=>by simp[FQ]at e;subst e;simp
 | i::l,cs,e=>by
  unfold FQ at e
  split at e
  ·rename_i c0 hi
   split at e
   ·rename_i x
    split at e
    ·rename_i r hr
     cases e
     obtain⟨h1,h2⟩:=LK hr
     refine⟨by simp[h1],fun j i' c h3 h4=>?_⟩
     cases j with
     | zero=>simp at h3 h4;subst h3;subst h4;exact hi
     | succ j=>simp at h3 h4;exact h2 j i' c h3 h4
    ·cases e
   ·rename_i x
    split at e
    ·rename_i r hr
     cases e
     obtain⟨h1,h2⟩:=LK hr
     refine⟨by simp[h1],fun j i' c h3 h4=>?_⟩
     cases j with
     | zero=>simp at h3 h4;subst h3;subst h4;exact hi
     | succ j=>simp at h3 h4;exact h2 j i' c h3 h4
    ·cases e
   ·cases e
  ·cases e
theorem AR.WZ {C:Cx}{F:Nat→Prop}{s:AN}{g:AL}{a:Act}{w:World}:∀(l:List Id) {h:AE},AR C F s h g a w→l.Nodup→(∀i∈l,∃ob,h i=some ob)→AR C F s (Aq h (Aa l)) g a w
 | [],_,R,_,_=>R
 | i::l,h,R,hn,hl=>by
  obtain⟨ob,hi⟩:=hl i (by simp)
  refine AR.WZ l (R.drop hi) (List.nodup_cons.1 hn).2 fun j hj=>?_
  have hne:j≠i:=by rintro rfl;exact (List.nodup_cons.1 hn).1 hj
  simp only[AJ,if_neg hne]
  exact hl j (by simp[hj])
theorem AR.cloz {C:Cx}{F:Nat→Prop}{s:AN}{h:AE}{g:AL}{a:Act}{w:World}(R:AR C F s h g a w) {t f:Nat}{BD:List Id}{cs:List FC}(ht:s t= .v (.c (.fn f BD))) (hn:BD.Nodup) (hb:FQ h BD=some cs):
  AR C F (Bp s (some t) (.v (.c (.fz f cs)))) (Aq h (Aa BD)) g a w:=by
 obtain⟨hl,hbx⟩:=LK hb
 have hob:∀(j:Nat) i,BD[j]?=some i→∃c,cs[j]?=some c∧lI h i c:=by
  intro j i hj
  have hlt:=(List.getElem?_eq_some_iff.1 hj).1
  exact⟨cs[j]'(by omega),List.getElem?_eq_getElem (by omega),hbx j i _ hj (List.getElem?_eq_getElem (by omega))⟩
 have hsome:∀i∈BD,∃ob,h i=some ob:=by
  intro i hi
  obtain⟨j,hj⟩:=List.mem_iff_getElem?.1 hi
  obtain⟨c,_,hc⟩:=hob j i hj
  cases c with
  | d x=>exact⟨_,hc⟩
  | p k=>exact⟨_,hc⟩
  | h=>exact hc.elim
 have R':=R.WZ BD hn hsome
 refine R'.Ls t _ ?_
 have hv:=R.slots t
 rw[ht]at hv
 obtain⟨hv,hcp⟩:=hv
 refine⟨BD.map (fun i=>Bu (g i) 0),hv,by simp[hl],fun j c p hc hp=>?_⟩
 rw[List.getElem?_map,Option.map_eq_some_iff]at hp
 obtain⟨i,hi,rfl⟩:=hp
 have hmem:=List.mem_of_getElem? hi
 have hbox:=hbx j i c hi hc
 have main:∀x:CV,h i=some (.cells [x])→∃b u,Bu (g i) 0= .pointer (some ⟨b,0,none⟩)∧w.cell? ⟨b,0,none⟩=some u∧¬Al (zone g (Aq h (Aa BD))) C.X b 0∧Au w (Al (zone g h) C.X) g h x u:=by
  intro x hx
  obtain⟨b,c,e,hg,hh,hs,hr⟩:=R.heap.objs i _ hx
  have hs:c.size=1:=hs
  refine⟨b,c[0]'(by omega),by rw[hg];rfl,?_,?_,hr 0 x _ rfl (by simp)⟩
  ·rw[cell_of_row w b 0 c e (0,0) hh]
   simp
  ·have hob:EM (g i) (.cells [x]) b:=by rw[hg];exact .inl rfl
   rintro (⟨j',ob,hj',hz⟩ | hx')
   ·rw[E5]at hj'
    split at hj'
    ·cases hj';exact hz.elim
    ·rename_i hnm
     exact hnm (R.heap.sep i j' _ ob b hx hj' hob hz.F7▸hmem)
   ·exact R.heap.apart i _ b 0 hx hob hx'
 have hz:∀b o,Al (zone g (Aq h (Aa BD))) C.X b o→Al (zone g h) C.X b o:=by
  rintro b o (⟨j',ob,hj',hz⟩ | hx)
  ·rw[E5]at hj'
   split at hj'
   ·cases hj';exact hz.elim
   ·exact .inl ⟨j',ob,hj',hz⟩
  ·exact .inr hx
 cases c with
 | d x=>
  obtain⟨b,u,h1,h2,h3,h4⟩:=main _ hbox
  exact⟨b,u,h1,h2,h3,h4.1.mono (fun b o u hu hn=>⟨hu,fun hy=>hn (hz b o hy)⟩),h4.2⟩
 | p k=>
  obtain⟨b,u,h1,h2,h3,h4⟩:=main _ hbox
  exact⟨b,u,h1,h2,h3,h4⟩
 | h=>exact hbox.elim
theorem XD {σ:St}{t f:Nat}{BD:List Id}{cs:List FC}(ht:AH σ.slots t= .v (.c (.fn f BD))) (hn:nodupB BD=true) (hb:FQ (AK σ.heap) BD=some cs):
  A8 σ ⟨(t,.v (.c (.fz f cs)))::σ.slots,Be σ.heap (Aa BD),σ.next⟩:=by
 rintro C a w ⟨g,R⟩
 refine⟨g,?_⟩
 have:=R.cloz ht (Ba.1 hn) hb
 rw[Bw,Ai]
 exact this
def Q4 (t f:Nat) (cs:List FC) (σ:St):St:=⟨(t,.v (.c (.ow (.loc σ.next))))::σ.slots,CR σ.heap (.loc σ.next) (.fnl f cs []),σ.next+32⟩
theorem Q5 {t f:Nat}{cs:List FC}{σ:St}{ag:Bool}{sz:Nat}(ht:AH σ.slots t= .v (.c (.nils ag sz))):A8 σ (Q4 t f cs σ):=by
 rintro C a w ⟨g,R⟩
 have hv:=R.slots t
 rw[ht]at hv
 have hv:a.tmps.getD t undef= .slice none 0 0:=hv
 obtain⟨g',R',hl⟩:=R.Ku (T0:=[]) (by simp) (n:=σ.next) (Nat.le_refl _) ⟨rfl,rfl,rfl,Nat.le_refl _⟩ (fun _ _ _=>rfl) (ob:=.fnl f cs []) (fun _ _ _ h=>h) (v:=.slice none 0 0) (fun _=>False) [] (fun _ h=>h.elim) (fun _ h=>h.elim) rfl
  (fun Z' g' h' gv gt gg gb E=>⟨gt,fun b=>by rw[gb,gg];simp[blk],[],by rw[gg];exact⟨0,World.ownsRow_nil w 0 0 1⟩,fun k r u hr=>by simp at hr⟩)
 have R2:=(R'.Ls t (.v (.c (.ow (.loc σ.next)))) (by rw[hv];exact hl)).AW (F':=fun n=>σ.next+32≤n) (fun n hn=>⟨by omega,by omega⟩)
 refine⟨g',?_⟩
 simp only[Q4,Ai,Bh]
 exact R2
theorem Yz {i:Id}{j:Nat}{σ:St}{cs:List CV}(hi:AK σ.heap i=some (.cells cs)):A8 σ ⟨σ.slots,CR σ.heap i (.cells (G3 cs j .un)),σ.next⟩:=by
 rintro C a w ⟨g,R⟩
 obtain⟨b,c,et,hb,hh,hsz2,hr⟩:=R.heap.objs i _ hi
 have R2:=R.store (cs':=cs.set j .un) hi hb hh (c':=c) (by simp[hsz2]) (fun k x u hx hu=>by
  by_cases hk:k=j
  ·subst hk
   by_cases hlt:k<cs.length
   ·rw[List.getElem?_set_self hlt]at hx
    cases hx
    exact (hr k _ u (List.getElem?_eq_getElem hlt) hu).BW
   ·rw[List.getElem?_eq_none (by simp;omega)]at hx
    cases hx
  ·rw[List.getElem?_set_ne (by omega)]at hx
   exact hr k x u hx hu)
 have hw:w.setRow b c=w:=setRow_self w b c _ _ hh
 rw[hw]at R2
 refine⟨g,?_⟩
 simp only[Bh,Gf]
 exact R2
inductive Gh where
 | unC (i:Id) (j:Nat)
 | drop (i:Id)
 | treeA (t j:Nat) (ag:Bool) (sz:Nat)
 | flatten (i:Id)
 | close (i:Id)
 | treeS (t:Nat) (ag:Bool) (sz:Nat)
 | treeC (i:Id) (j:Nat) (ag:Bool) (sz:Nat)
 | tokS (t:Nat) (ag:Bool) (sz:Nat) (e:TypeId)
 | tokC (i:Id) (j:Nat) (ag:Bool) (sz:Nat) (e:TypeId)
 | freeze (i:Id)
 | move (i:Id)
 | freezeC (i:Id) (ag:Bool) (sz n:Nat)
 | closeP (i:Id)
 | cloz (t:Nat)
 | fnlS (t f:Nat) (cs:List FC)
def iL:Kd→Bool
 | .row=>true
 | .flat=>true
 | _=>false
def gh:List Gh→St→(St→Prop)→Prop
 | [],σ,K=>K σ
 | x::r,σ,K=>match x with
  | .close i=>Gs (AK σ.heap) [i] fun _ _ wr=>gh r ⟨σ.slots,Be σ.heap wr,σ.next⟩ K
  | .treeS t ag sz=>Ay (Nat.blt 0 sz)<| Ay (Ez ag sz (AH σ.slots t))<| gh r (KA t ag sz σ) K
  | .treeC i j ag sz=>Ay (Nat.blt 0 sz)<| (match AK σ.heap i with
   | some (.cells cs)=>Ay (FP ag sz (MQ cs j))<| gh r (KB i j ag sz σ) K
   | _=>False)
  | .tokS t ag sz e=>Ay (Nat.blt 0 sz)<| Ay (Ez ag sz (AH σ.slots t))<| gh r (Md t ag sz e σ) K
  | .tokC i j ag sz e=>Ay (Nat.blt 0 sz)<| (match AK σ.heap i with
   | some (.cells cs)=>Ay (FP ag sz (MQ cs j))<| gh r (Me i j ag sz e σ) K
   | _=>False)
  | .freeze i=>(match AK σ.heap i with
   | some (.tree kd ag sz rows foc)=>(match foc with
    | none=>Ay (iL kd)<| gh r (Nw i (.list ag sz rows) σ) K
    | some _=>False)
   | _=>False)
  | .unC i j=>(match AK σ.heap i with
   | some (.cells cs)=>gh r ⟨σ.slots,CR σ.heap i (.cells (G3 cs j .un)),σ.next⟩ K
   | _=>False)
  | .drop i=>(match AK σ.heap i with
   | some _=>gh r ⟨σ.slots,CR σ.heap i .gone,σ.next⟩ K
   | none=>False)
  | .treeA t j ag sz=>Ay (Nat.blt 0 sz)<| (match AH σ.slots t with
   | .v (.agg cs)=>Ay (FP ag sz (MQ cs j))<| gh r (Mg t cs j ag sz σ) K
   | _=>False)
  | .flatten i=>(match AK σ.heap i with
   | some (.tree kd ag sz rows foc)=>(match kd with
    | .row=>(match foc with
     | none=>gh r ⟨σ.slots,CR σ.heap i (.tree .flat ag sz rows none),σ.next⟩ K
     | some _=>False)
    | _=>False)
   | _=>False)
  | .move i=>(match AK σ.heap i with
   | some (.tree kd ag sz rows foc)=>(match foc with
    | none=>gh r (Us i (.tree kd ag sz rows none) σ) K
    | some _=>False)
   | _=>False)
  | .freezeC i ag sz n=>(match AK σ.heap i with
   | some (.cells cs)=>(match Nx cs with
    | some ds=>Ay (Nat.beq (n*sz) ds.length)<| Ay (Nat.blt 0 sz)<| Ay (ag || Nat.beq sz 1)<| Ay (Nat.ble n maxLen)<| ∃rows,rowsOf ag sz n ds=rows∧gh r (Nw i (.list ag sz rows) σ) K
    | none=>False)
   | _=>False)
  | .fnlS t f cs=>(match AH σ.slots t with
   | .v (.c (.nils _ _))=>gh r (Q4 t f cs σ) K
   | _=>False)
  | .cloz t=>(match AH σ.slots t with
   | .v (.c (.fn f BD))=>Ay (nodupB BD)<| (match FQ (AK σ.heap) BD with
    | some cs=>gh r ⟨(t,.v (.c (.fz f cs)))::σ.slots,Be σ.heap (Aa BD),σ.next⟩ K
    | none=>False)
   | _=>False)
  | .closeP i=>(match AK σ.heap i with
   | some (.pmap n1 sz n rows foc)=>(match foc with
    | some kj=>(match AK σ.heap kj.2 with
     | some (.arr cs1 ag sz' L cs2)=>Ay ag<| Ay (Nat.beq sz' sz)<| (match cs2 with
      | []=>(match Sa cs1 with
       | some ds=>∃rows',(rows.modify kj.1 fun r=>(r.1,ds,L))=rows'∧gh r ⟨σ.slots,Be σ.heap [(i,.pmap n1 sz n rows' none),(kj.2,.gone)],σ.next⟩ K
       | none=>False)
      | _::_=>False)
     | _=>False)
    | none=>False)
   | _=>False)
theorem Ny {ag:Bool}{sz:Nat}{x:AV}(h:Ez ag sz x=true):x= .v (.c (.nils ag sz)):=by
 cases x with
 | v x=>cases x with
  | c c=>rw[LI h]
  | _=>simp[Ez]at h
 | _=>simp[Ez]at h
theorem Bj {K:St→Prop}:∀{l:List Gh}{σ:St},gh l σ K→∃σ',A8 σ σ'∧K σ'
 | [],σ,h=>⟨σ,A8.refl σ,h⟩
 | .close i::r,σ,h=>by
  simp only[gh,Gs]at h
  split at h
  ·rename_i kd ag sz rows k cs hi
   obtain⟨hnf,h⟩:=AA.1 h
   obtain⟨ds,iss,h,hdl,hol,hcl⟩:=IL h
   split at h
   ·rename_i hnd
    split at h
    ·rename_i hag
     obtain⟨rows',hrows,h⟩:=h
     obtain⟨σ',hw,hk⟩:=Bj h
     refine⟨σ',A8.trans (fun C a w R=>?_) hw,hk⟩
     obtain⟨g,R⟩:=R
     obtain⟨g',R'⟩:=R.aZ hi (Lz.1 hnf) hdl hol (Ba.1 hnd) (fun e=>by rw[e]at hag;simpa using hag) hcl hrows
     refine⟨g',?_⟩
     simp only[Bw,List.append_nil]
     exact R'
    ·exact h.elim
   ·exact h.elim
  ·exact h.elim
 | .treeS t ag sz::r,σ,h=>by
  obtain⟨h1,h⟩:=AA.1 h
  obtain⟨h2,h⟩:=AA.1 h
  obtain⟨σ',h3,h4⟩:=Bj h
  exact⟨σ',A8.trans (PD h1 (Ny h2)) h3,h4⟩
 | .treeC i j ag sz::r,σ,h=>by
  obtain⟨h1,h⟩:=AA.1 h
  split at h
  ·rename_i cs hi
   obtain⟨h2,h⟩:=AA.1 h
   obtain⟨σ',h3,h4⟩:=Bj h
   exact⟨σ',A8.trans (PE h1 hi (Hi h2)) h3,h4⟩
  ·exact h.elim
 | .tokS t ag sz e::r,σ,h=>by
  obtain⟨h1,h⟩:=AA.1 h
  obtain⟨h2,h⟩:=AA.1 h
  obtain⟨σ',h3,h4⟩:=Bj h
  exact⟨σ',A8.trans (J7 h1 (Ny h2)) h3,h4⟩
 | .tokC i j ag sz e::r,σ,h=>by
  obtain⟨h1,h⟩:=AA.1 h
  split at h
  ·rename_i cs hi
   obtain⟨h2,h⟩:=AA.1 h
   obtain⟨σ',h3,h4⟩:=Bj h
   exact⟨σ',A8.trans (J8 h1 hi (Hi h2)) h3,h4⟩
  ·exact h.elim
 | .fnlS t f cs::r,σ,h=>by
  simp only[gh]at h
  split at h
  ·rename_i hs
   obtain⟨σ',h3,h4⟩:=Bj h
   exact⟨σ',A8.trans (Q5 hs) h3,h4⟩
  ·exact h.elim
 | .cloz t::r,σ,h=>by
  simp only[gh]at h
  split at h
  ·rename_i f BD hs
   obtain⟨h1,h⟩:=AA.1 h
   split at h
   ·rename_i cs hb
    obtain⟨σ',h3,h4⟩:=Bj h
    exact⟨σ',A8.trans (XD hs h1 hb) h3,h4⟩
   ·exact h.elim
  ·exact h.elim
 | .freeze i::r,σ,h=>by
  simp only[gh]at h
  split at h
  ·rename_i kd ag sz rows foc hi
   split at h
   ·obtain⟨h1,h⟩:=AA.1 h
    obtain⟨σ',h3,h4⟩:=Bj h
    exact⟨σ',A8.trans (TP hi (by cases kd<;>simp[iL]at h1 ⊢)) h3,h4⟩
   ·exact h.elim
  ·exact h.elim
 | .unC i j::r,σ,h=>by
  simp only[gh]at h
  split at h
  ·rename_i cs hi
   obtain⟨σ',h3,h4⟩:=Bj h
   exact⟨σ',A8.trans (Yz hi) h3,h4⟩
  ·exact h.elim
 | .drop i::r,σ,h=>by
  simp only[gh]at h
  split at h
  ·rename_i ob hi
   obtain⟨σ',h3,h4⟩:=Bj h
   exact⟨σ',A8.trans (XC hi) h3,h4⟩
  ·exact h.elim
 | .treeA t j ag sz::r,σ,h=>by
  obtain⟨h1,h⟩:=AA.1 h
  split at h
  ·rename_i cs ht
   obtain⟨h2,h⟩:=AA.1 h
   obtain⟨σ',h3,h4⟩:=Bj h
   exact⟨σ',A8.trans (Q3 h1 ht (Hi h2)) h3,h4⟩
  ·exact h.elim
 | .flatten i::r,σ,h=>by
  simp only[gh]at h
  split at h
  ·rename_i kd ag sz rows foc hi
   split at h
   ·split at h
    ·obtain⟨σ',h3,h4⟩:=Bj h
     exact⟨σ',A8.trans (Q2 hi) h3,h4⟩
    ·exact h.elim
   ·exact h.elim
  ·exact h.elim
 | .move i::r,σ,h=>by
  simp only[gh]at h
  split at h
  ·rename_i kd ag sz rows foc hi
   split at h
   ·obtain⟨σ',h3,h4⟩:=Bj h
    exact⟨σ',A8.trans (XB hi) h3,h4⟩
   ·exact h.elim
  ·exact h.elim
 | .freezeC i ag sz n::r,σ,h=>by
  simp only[gh]at h
  split at h
  ·rename_i cs hi
   split at h
   ·rename_i ds hd
    obtain⟨h1,h⟩:=AA.1 h
    obtain⟨h2,h⟩:=AA.1 h
    obtain⟨h5,h⟩:=AA.1 h
    obtain⟨h6,rows,rfl,h⟩:=AA.1 h
    obtain⟨σ',h3,h4⟩:=Bj h
    exact⟨σ',A8.trans (Q1 hi hd (Nat.eq_of_beq_eq_true h1) (by simp[Nat.blt]at h2;omega) (fun e=>by rw[e]at h5;simpa using h5) (Nat.le_of_ble_eq_true h6)) h3,h4⟩
   ·exact h.elim
  ·exact h.elim
 | .closeP i::r,σ,h=>by
  simp only[gh]at h
  split at h
  ·rename_i n1 sz n rows foc hi
   split at h
   ·rename_i kj
    obtain⟨kk,j⟩:=kj
    split at h
    ·rename_i cs1 ag sz' L cs2 hj
     replace h:=AA.1 h
     obtain⟨hag,h5⟩:=h
     replace h5:=AA.1 h5
     obtain⟨hsz,h6⟩:=h5
     split at h6
     ·split at h6
      ·rename_i ds hd
       obtain⟨rows',hr,h7⟩:=h6
       subst hag
       obtain rfl:=Nat.eq_of_beq_eq_true hsz
       obtain⟨σ',h3,h4⟩:=Bj h7
       refine⟨σ',A8.trans (fun C a w R=>?_) h3,h4⟩
       obtain⟨g,R⟩:=R
       obtain⟨g',R'⟩:=R.eH hi (by rw[←Sb hd];exact hj) hr
       refine⟨g',?_⟩
       simp only[Bw]
       exact R'
      ·exact h6.elim
     ·exact h6.elim
    ·exact h.elim
   ·exact h.elim
  ·exact h.elim
end Go.AM
namespace Go.AM
open Go Go.RowKit
def slotsOf:List V1→Nat→List (Nat×AV)
 | [],_=>[]
 | x::r,i=>(i,.v x)::slotsOf r (i+1)
def A9:List AB→Nat→List (Id×AB)
 | [],_=>[]
 | x::r,i=>(.ext i,x)::A9 r (i+1)
theorem De:∀(l:List V1) (i t:Nat),AH (slotsOf l i) t= .u∨∃x,i≤t∧l[t - i]?=some x∧AH (slotsOf l i) t= .v x
 | [],i,t=>.inl rfl
 | x::r,i,t=>by
  show AH ((i,.v x)::slotsOf r (i+1)) t=_∨∃y,i≤t∧(x::r)[t - i]?=some y∧AH ((i,.v x)::slotsOf r (i+1)) t= .v y
  rw[Ai]
  simp only[]
  split
  ·subst t;exact .inr ⟨x,Nat.le_refl _,by simp,rfl⟩
  ·rcases De r (i+1) t with h | ⟨y,h1,h2,h3⟩
   ·exact .inl h
   ·refine .inr ⟨y,by omega,?_,h3⟩
    rw[show t - i=(t - (i+1))+1 from by omega]
    simpa using h2
theorem Nz:∀(l:List AB) (i:Nat) (x:Id) (o:AB),AK (A9 l i) x=some o→∃j,x= .ext j∧i≤j∧l[j - i]?=some o
 | [],i,x,o,h=>by simp[A9,AK]at h
 | y::r,i,x,o,h=>by
  rw[show A9 (y::r) i=(.ext i,y)::A9 r (i+1)from rfl,Cp]at h
  simp only[AJ]at h
  split at h
  ·simp at h;subst h;subst x;exact⟨i,rfl,Nat.le_refl _,by simp⟩
  ·obtain⟨j,h1,h2,h3⟩:=Nz r (i+1) x o h
   refine⟨j,h1,by omega,?_⟩
   rw[show j - i=(j - (i+1))+1 from by omega]
   simpa using h3
theorem N0:∀(l:List AB) (i j:Nat),AK (A9 l i) (.ext (i+j))=l[j]?
 | [],i,j=>by simp[A9,AK]
 | y::r,i,j=>by
  rw[show A9 (y::r) i=(.ext i,y)::A9 r (i+1)from rfl,Cp]
  simp only[AJ]
  cases j with
  | zero=>simp
  | succ j=>
   rw[if_neg (by simp),show i+(j+1)=i+1+j from by omega,N0 r (i+1) j]
   simp
def Fy (ti:Types) (σ:St):List ResultVar→(List V1→Prop)→Prop
 | [],K=>K []
 | .tmp t::r,K=>DI (AH σ.slots t) fun x=>Fy ti σ r fun xs=>K (x.norm::xs)
 | .cell a t::r,K=>Fm ti t (AH σ.slots a) (AK σ.heap) fun out=>DI out.val fun x=>Fy ti σ r fun xs=>K (x.norm::xs)
def N1:List V1→AV
 | [x]=>.v x
 | xs=>.t xs
def CY (nm:List Id) (N:Nat):Id→Id
 | .ext j=>.ext j
 | .loc k=>match nm[k]? with
  | some n=>n
  | none=>.loc N
def N2:AB→Bool
 | .gone=>true
 | _=>false
theorem Pq {o:AB}(h:N2 o=true):o= .gone:=by cases o<;>first | rfl | simp[N2]at h
def DY (h:AE) (r:Id→Id):List AB→Nat→Prop
 | [],_=>True
 | o::l,j=>match N2 o with
  | true=>DY h r l (j+1)
  | false=>h (.ext j)=some (o.Ar r)∧DY h r l (j+1)
def Ix (h:AE) (r:Id→Id):List AB→List Id→Prop
 | [],[]=>True
 | o::l,n::nm=>h n=some (o.Ar r)∧Ix h r l nm
 | _,_=>False
def FR (post:List AB):List Id→Prop
 | []=>True
 | .loc _::l=>FR post l
 | .ext j::l=>match post[j]? with
  | some o=>match N2 o with
   | true=>FR post l
   | false=>False
  | none=>False
def DZ (ti:Types) (rs:List ResultVar) (σ:St) (res:AV) (post new:List AB):Prop:=
 ∃gs,gh gs σ fun σ=>Fy ti σ rs fun xs=>∃nm:List Id,nodupB nm=true∧N1 xs=res.Ar (CY nm σ.next)∧DY (AK σ.heap) (CY nm σ.next) post 0∧Ix (AK σ.heap) (CY nm σ.next) new nm∧FR post nm
theorem N3 {h:AE}{r:Id→Id}:∀{l:List AB}{i j:Nat}{o:AB},DY h r l i→l[j]?=some o→o= .gone∨h (.ext (i+j))=some (o.Ar r)
 | o::l,i,0,_,hp,hj=>by
  simp at hj
  subst hj
  unfold DY at hp
  split at hp
  ·rename_i hg;exact .inl (Pq hg)
  ·exact .inr hp.1
 | o::l,i,j+1,_,hp,hj=>by
  simp at hj
  have hp':DY h r l (i+1):=by
   unfold DY at hp
   split at hp
   ·exact hp
   ·exact hp.2
  have:=N3 (j:=j) hp' hj
  rw[show i+(j+1)=i+1+j from by omega]
  exact this
theorem Gg {h:AE}{r:Id→Id}:∀{l:List AB}{nm:List Id}{j:Nat}{o:AB},Ix h r l nm→l[j]?=some o→∃n,nm[j]?=some n∧h n=some (o.Ar r)
 | o::l,n::nm,0,_,hp,hj=>by simp at hj;subst hj;exact⟨n,rfl,hp.1⟩
 | o::l,n::nm,j+1,_,hp,hj=>by
  simp at hj
  obtain⟨m,h1,h2⟩:=Gg (j:=j) hp.2 hj
  exact⟨m,by simpa using h1,h2⟩
 | [],[],j,_,_,hj=>by simp at hj
 | [],_::_,_,_,hp,_=>hp.elim
 | _::_,[],_,_,hp,_=>hp.elim
theorem Pr {h:AE}{r:Id→Id}:∀{l:List AB}{nm:List Id},Ix h r l nm→nm.length=l.length
 | o::l,n::nm,hp=>by simp[Pr hp.2]
 | [],[],_=>rfl
 | [],_::_,hp=>hp.elim
 | _::_,[],hp=>hp.elim
theorem JO {post:List AB}:∀{nm:List Id}{k j:Nat},FR post nm→nm[k]?=some (.ext j)→post[j]?=some .gone
 | [],k,j,_,h=>by simp at h
 | n::nm,0,j,hp,h=>by
  simp at h
  subst h
  simp only[FR]at hp
  split at hp
  ·rename_i o ho
   split at hp
   ·rename_i hg;rw[ho,Pq hg]
   ·exact hp.elim
  ·exact hp.elim
 | n::nm,k+1,j,hp,h=>by
  simp at h
  refine JO (k:=k) ?_ h
  cases n with
  | loc=>exact hp
  | ext i=>
   simp only[FR]at hp
   split at hp
   ·split at hp
    ·exact hp
    ·exact hp.elim
   ·exact hp.elim
section
variable {C:Cx}{ti:Types}{σ:St}{g:AL}{a:Act}{w:World}{F:Nat→Prop}
theorem cR (hti:Ao C.P ti) (h1:BB ti) (R:AR C F (AH σ.slots) (AK σ.heap) g a w) {p:Tmp}{t:TypeId}{k:Out→Prop}
  (hk:Fm ti t (AH σ.slots p) (AK σ.heap) k):∃out v ad,k out∧a.tmps.getD p undef= .pointer (some ad)∧(loadVar t ad).run C.P w= .ok v w∧An w (Al (zone g (AK σ.heap)) C.X) g (AK σ.heap) out.val v:=by
 obtain⟨out,hko,_,H⟩:=PX (C:=C) hti h1 t _ hk
 obtain⟨v,hv,hr⟩:=H F _ _ g a w _ R (R.slots p) (fun _ _=>rfl)
 refine⟨out,v,?_⟩
 revert hv
 generalize a.tmps.getD p undef=u
 intro hv
 cases u with
 | pointer ad=>
  cases ad with
  | none=>simp[Instr.loadAt,Instr.sureAddr]at hv
  | some ad=>exact⟨ad,hko,rfl,by simpa [Instr.loadAt,Instr.sureAddr] using hv,hr⟩
 | _=>simp[Instr.loadAt,Instr.sureAddr]at hv
def N4 (tmps:Array Value):ResultVar→Sem Value
 | .tmp t=>pure (tmps.getD t undef)
 | .cell a t=>do loadVar t (←asAddr (tmps.getD a undef))
theorem EO (hti:Ao C.P ti) (h1:BB ti) (R:AR C F (AH σ.slots) (AK σ.heap) g a w):∀(rs:List ResultVar) (K:List V1→Prop),Fy ti σ rs K→
  ∃xs vs,K xs∧(rs.mapM (N4 a.tmps)).run C.P w= .ok vs w∧vs.length=xs.length∧∀(j:Nat) x v,xs[j]?=some x→vs[j]?=some v→Ag w (Al (zone g (AK σ.heap)) C.X) g (AK σ.heap) x v
 | [],K,hk=>⟨[],[],hk,rfl,rfl,by simp⟩
 | .tmp t::r,K,hk=>by
  obtain⟨y,hy,hk⟩:=CS.1 hk
  obtain⟨xs,vs,h2,h3,h4,h5⟩:=EO hti h1 R r _ hk
  refine⟨y.norm::xs,a.tmps.getD t undef::vs,h2,by simp[List.mapM_cons,N4,h3],by simp[h4],fun j x v hx hv=>?_⟩
  match j with
  | 0=>
   simp only[List.getElem?_cons_zero,Option.some.injEq]at hx hv
   subst hx;subst hv
   have:=R.slots t
   rw[hy]at this
   exact Ag.norm this
  | j+1=>simp at hx hv;exact h5 j x v hx hv
 | .cell p t::r,K,hk=>by
  obtain⟨out,v0,ad,hk,hp,hl,hr⟩:=cR hti h1 R hk
  obtain⟨y,hy,hk⟩:=CS.1 hk
  obtain⟨xs,vs,h2,h3,h4,h5⟩:=EO hti h1 R r _ hk
  refine⟨y.norm::xs,v0::vs,h2,by simp only[List.mapM_cons,N4,hp,asAddr];simp[hl,h3],by simp[h4],fun j x v hx hv=>?_⟩
  match j with
  | 0=>
   simp only[List.getElem?_cons_zero,Option.some.injEq]at hx hv
   subst hx;subst hv
   rw[hy]at hr
   exact Ag.norm hr
  | j+1=>simp at hx hv;exact h5 j x v hx hv
theorem Hk {fn:Func}{vs:List Value}(h:(fn.results.toList.mapM (N4 a.tmps)).run C.P w= .ok vs w):
  (results fn a.tmps).run C.P w= .ok (if h:vs.toArray.size=1 then vs.toArray[0]else .tuple vs.toArray) w:=by
 have e:results fn a.tmps=(do let vs ←fn.results.mapM (N4 a.tmps);pure (if h:vs.size=1 then vs[0]else .tuple vs)):=by
  unfold results
  congr 1
 rw[e,Array.mapM_eq_mapM_toList,Sem.run_bind,Sem.run_map,h]
 rfl
end
def AY.of (P:Program) (I:Inv) (cl:Bool:=false) (pn:Value→List (Nat×AV)→List (Id×AB)→Nat→Prop:=fun _ _ _ _=>False):AY where
 I:=I
 cl:=cl
 pn:=pn
 P:=P
 split:=fun c A=>A c
 split_iff:=fun _ _=>Iff.rfl
 lock:=fun p=>p ()
 lock_iff:=fun _=>Iff.rfl
 eqI:=fun a b=>a==b
 eqI_eq:=fun _ _=>rfl
 ltI:=fun a b=>decide (a<b)
 ltI_eq:=fun _ _=>rfl
 leI:=fun a b=>decide (a≤b)
 leI_eq:=fun _ _=>rfl
 eqS:=fun a b=>a.toList==b.toList
 eqS_eq:=fun _ _=>rfl
 ltS:=fun a b=>Op.bytesLess a.toList b.toList
 ltS_eq:=fun _ _=>rfl
 lenI:=fun l=>l.length
 lenI_eq:=fun _=>rfl
 szI:=fun s=>s.size
 szI_eq:=fun _=>rfl
theorem finish {C:Cx}{σ:St}{g2:AL}{a:Act}{w':World}{X:Ad}{post new:List AB}{nm:List Id}(R2:AR C (fun n=>σ.next≤n) (AH σ.slots) (AK σ.heap) g2 a w') (hX:∀b o,X b o→C.X b o)
  (hnd:nm.Nodup) (hpost:DY (AK σ.heap) (CY nm σ.next) post 0) (hnewo:Ix (AK σ.heap) (CY nm σ.next) new nm) (hhand:FR post nm):
  C9 w' X (fun i=>g2 (CY nm σ.next i)) (Bi post new)∧(∀i ob b o,Bi post new i=some ob→BL (g2 (CY nm σ.next i)) ob b o→∃j ob',AK σ.heap j=some ob'∧BL (g2 j) ob' b o)∧
   (∀k,new.length≤k→g2 (CY nm σ.next (.loc k))=undef)∧
   ∀(x:AV) v,An w' (Al (zone g2 (AK σ.heap)) C.X) g2 (AK σ.heap) (x.Ar (CY nm σ.next)) v→An w' (Al (zone (fun i=>g2 (CY nm σ.next i)) (Bi post new)) X) (fun i=>g2 (CY nm σ.next i)) (Bi post new) x v:=by
 have live:∀i o,Bi post new i=some o→o= .gone∨AK σ.heap (CY nm σ.next i)=some (o.Ar (CY nm σ.next)):=by
  intro i o hi
  cases i with
  | ext j=>have:=N3 hpost hi;rw[Nat.zero_add]at this;exact this
  | loc k=>
   obtain⟨n,hn,ho⟩:=Gg hnewo hi
   exact .inr (by simpa [CY,hn] using ho)
 have hz:∀b o,Al (zone (fun i=>g2 (CY nm σ.next i)) (Bi post new)) X b o→Al (zone g2 (AK σ.heap)) C.X b o:=by
  rintro b o (⟨i,ob,hi,h1⟩ | hx)
  ·rcases live i ob hi with rfl | ho
   ·exact h1.elim
   ·exact .inl ⟨_,_,ho,Co.2 h1⟩
  ·exact .inr (hX b o hx)
 have ht:∀i n sz e,Bi post new i=some (.tok n sz e)→AK σ.heap (CY nm σ.next i)=some (.tok n sz e):=fun i n sz e hi=>(live i _ hi).resolve_left (by simp)
 have hw:∀i,isLive (Bi post new i)=true→isLive (AK σ.heap (CY nm σ.next i))=true:=by
  intro i hi
  cases ho:Bi post new i with
  | none=>rw[ho]at hi;cases hi
  | some o=>
   rw[ho]at hi
   rcases live i o ho with rfl | h
   ·cases hi
   ·rw[h]
    exact DS.trans hi
 have hN:=R2.free σ.next (Nat.le_refl _)
 refine⟨⟨fun i o hi=>?_,fun i j oi oj b hi hj bi bj=>?_,fun i oi b o hi bi=>?_⟩,fun i ob b o hi hb=>?_,fun k hk=>?_,fun x v h=>An.pull (r:=CY nm σ.next) (g:=g2) (h:=AK σ.heap) hz (fun _=>rfl) ht hw h⟩
 ·rcases live i o hi with rfl | ho
  ·trivial
  ·exact BH.pull (r:=CY nm σ.next) hz (fun _=>rfl) ht hw (R2.heap.objs _ _ ho)
 ·rcases live i oi hi with rfl | ho
  ·exact bi.elim
  rcases live j oj hj with rfl | ho'
  ·exact bj.elim
  have e:=R2.heap.sep _ _ _ _ b ho ho' (DA.2 bi) (DA.2 bj)
  cases i with
  | ext i=>
   cases j with
   | ext j=>simpa [CY] using e
   | loc k=>
    obtain⟨n,hn,_⟩:=Gg hnewo hj
    simp only[CY,hn]at e
    subst e
    have:=JO hhand hn
    rw[show Bi post new (.ext i)=post[i]? from rfl,this]at hi
    cases hi
    exact bi.elim
  | loc k=>
   obtain⟨n,hn,_⟩:=Gg hnewo hi
   cases j with
   | ext j=>
    simp only[CY,hn]at e
    subst e
    have:=JO hhand hn
    rw[show Bi post new (.ext j)=post[j]? from rfl,this]at hj
    cases hj
    exact bj.elim
   | loc k'=>
    obtain⟨n',hn',_⟩:=Gg hnewo hj
    simp only[CY,hn,hn']at e
    subst e
    rw[(List.getElem?_inj (List.getElem?_eq_some_iff.1 hn).1 hnd).1 (hn.trans hn'.symm)]
 ·rcases live i oi hi with rfl | ho
  ·exact bi.elim
  ·intro hx
   exact R2.heap.apart _ _ b o ho (DA.2 bi) (hX b o hx)
 ·rcases live i ob hi with rfl | ho
  ·exact hb.elim
  ·exact⟨_,_,ho,Co.2 hb⟩
 ·have:nm[k]?=none:=by simp[Pr hnewo];omega
  simp only[CY,this]
  exact hN.1
theorem L9 {P:Program}{fn:Func}{tmps:Array Value}{R:Ending→World→Prop}:∀(ds:List Nat) (w:World),ds.Nodup→(∀r∈ds,w.heap[r]?=some (.deferred (some [])))→
  LeavesIn Fence.wide 0 P fn tmps R [] .returning (ds.foldl (fun w r=>w.putObj r (.deferred none)) w)→LeavesInM Fence.wide 0 P fn tmps R (ds.map DJ) .returning w
 | [],w,_,_,h=>h
 | r::ds,w,hn,hd,h=>by
  refine⟨by simp,.inl ⟨r,_,rfl,run_takeDeferred (hd r (by simp)),?_⟩⟩
  refine L9 ds _ (List.nodup_cons.1 hn).2 (fun r' hr'=>?_) h
  exact (World.putObj_heap_other (by rintro rfl;exact (List.nodup_cons.1 hn).1 hr')).trans (hd r' (by simp[hr']))
theorem MA:∀(ds:List Nat) (w:World),El (fun b=>b∈ds) w (ds.foldl (fun w r=>w.putObj r (.deferred none)) w)
 | [],w=>⟨rfl,rfl,rfl,Nat.le_refl _,fun _ _ _=>rfl⟩
 | r::ds,w=>by
  have:=MA ds (w.putObj r (.deferred none))
  refine⟨this.os,this.tape,this.output,by simpa using this.size,fun b hb hn=>?_⟩
  simp only[List.mem_cons,not_or]at hn
  exact (this.block b (by simpa using hb) hn.2).trans (World.putObj_heap_other hn.1)
theorem N5:∀(ds:List Nat) (w:World),(ds.foldl (fun w r=>w.putObj r (.deferred none)) w).heap.size=w.heap.size
 | [],_=>rfl
 | r::ds,w=>by
  have:=N5 ds (w.putObj r (.deferred none))
  rw[World.putObj_size]at this
  exact this
theorem AR.turned {C:Cx}{F:Nat→Prop}{s:AN}{h:AE}{g:AL}{a a':Act}{w w':World}(R:AR C F s h g a w) {B:Nat→Prop}(A:El B w w') (hs:w'.heap.size=w.heap.size) (hB:∀b o,B b→C.X b o) (hI:∀b,C.M.I.blocks b→¬B b) (ht:a'.tmps=a.tmps) (ro:Option Nat)
  (hro:∀l,ro=some l→(∃L,w'.heap[l]?=some (.loop L))∧∀o,C.X l o) (hd:a'.defers=[]) (hcl:C.M.cl=false):
  ∃C2:Cx,C2.M=C.M∧C2.nt=C.nt∧C2.X=C.X∧C2.ro=ro∧C2.w0=w'∧C2.Z0=zone g h∧C2.g0=g∧C2.D=[]∧AR C2 F s h g a' w':=by
 have hX:∀b o,C.X b o→b<w.heap.size:=fun b o hx=>Nat.lt_of_lt_of_le (R.xs b o hx) R.frame.size
 have noz:∀b,(∀o,C.X b o)→∀o,¬zone g h b o:=by
  rintro b hx o ⟨i,ob,hi,hz⟩
  exact R.heap.apart i ob b o hi hz.F7 (hx o)
 have hinv:C.M.I.at w' (Al (zone g h) C.X):=by
  obtain⟨i1,i2⟩:=R.inv
  refine⟨C.M.I.same (fun b hb=>A.block b (i2 b hb).1 (hI b hb)) i1,fun b hb=>⟨by rw[hs];exact (i2 b hb).1,(i2 b hb).2⟩⟩
 refine⟨{M:=C.M,nt:=C.nt,w0:=w',Z0:=zone g h,X:=C.X,g0:=g,hinv:=hinv,ro:=ro,D:=[],hro:=fun l hl=>⟨(hro l hl).1,noz l (hro l hl).2⟩,hD:=by simp,hDn:=List.nodup_nil,hcl:=fun h=>by rw[hcl]at h;cases h},rfl,rfl,rfl,rfl,rfl,rfl,rfl,rfl,?_⟩
 refine R.SS A rfl rfl (fun i o hi=>.inl hi) (fun b o hb=>.inr (hB b o hb)) ?_ (fun b o hx=>.inl (.inr hx)) (fun b o hx=>by rw[hs];exact hX b o hx) (fun i ob b o hi hb hx=>R.heap.apart i ob b o hi hb hx) rfl (fun b o hz=>hz) (fun j=>.refl _) ht ⟨fun _=>hd,fun h=>by rw[hcl]at h;cases h⟩ (fun n hn=>(R.free n hn).2)
 intro i ob b hi hb hBb
 exact R.heap.apart i ob b 0 hi hb (hB b 0 hBb)
theorem EA {C:Cx}{P:Program}{sl:List (Nat×AV)}{pre:List AB}{g:AL}{a:Act}{w:World}(hsz:a.tmps.size=C.nt) (hd:DH w (Al (zone g (Ae pre)) C.X) g C.M.cl (AH sl DT) a.defers C.D) (hsl:∀t,An w (Al (zone g (Ae pre)) C.X) g (Ae pre) (AH sl t) (a.tmps.getD t undef))
  (RH:C9 w C.X g (Ae pre)) (hw0:C.w0=w) (hg0:C.g0=g) (hZ:∀b o,zone g (Ae pre) b o→C.Z0 b o) (hX:∀b o,C.X b o→b<w.heap.size) (hg:∀n,g (.loc n)=undef):BX C ⟨sl,A9 pre 0,0⟩ a w:=by
 have hh:AK (A9 pre 0)=Ae pre:=by
  funext i
  cases i with
  | ext j=>have:=N0 pre 0 j;rw[Nat.zero_add]at this;exact this
  | loc n=>
   cases hc:AK (A9 pre 0) (.loc n)with
   | none=>rfl
   | some o=>obtain⟨j,e,_⟩:=Nz pre 0 _ o hc;simp at e
 refine⟨g,?_⟩
 rw[hh]
 exact⟨hsz,hd,hsl,RH,by rw[hw0];exact BZ.refl _ _,fun j=>by rw[hg0];exact .refl _,fun j ob b o hj hz=>.inl (hZ b o ⟨_,_,hj,hz⟩),by rw[hw0];exact hX,fun n _=>⟨hg n,rfl⟩⟩
theorem Bk.body {P:Program}{I:Inv}{ti:Types}(dr:AY→Nat→LB) (hti:Ao P ti) (h1:BB ti) (hdr:∀C:Cx,C.P=P→D9 C (dr C.M C.nt)) {f:FuncId}{fn:Func}{c:Code}(hf:P.funcs[f]?=some fn) (hb:fn.body=some c)
  (hname:(fn.name== "runtime.NumGoroutine")=false) {args:List V1} {pre:List AB} {Q:AV→List AB→List AB→Prop} (hargs:args.length≤fn.ntmps)
  (hx:∀M:AY,M.P=P→M.I=I→exec M ti fn.ntmps (dr M fn.ntmps) c ⟨slotsOf args 0,A9 pre 0,0⟩ fun e σ=>match e with
   | .exit _=>False
   | .normal=>∃res post new,Q res post new∧DZ ti fn.results.toList σ res post new
   | .ret=>∃res post new,Q res post new∧DZ ti fn.results.toList σ res post new)
  (w:World) (X:Ad) (g:AL) (vals:Array Value) (hX:∀b o,X b o→b<w.heap.size) (hI:I.at w (Al (zone g (Ae pre)) X)) (RH:C9 w X g (Ae pre)) (hg:∀n,g (.loc n)=undef) (hsz:vals.size=args.length)
  (hargs':∀(j:Nat) x v,args[j]?=some x→vals[j]?=some v→Ag w (Al (zone g (Ae pre)) X) g (Ae pre) x v):
  c.wpIn Fence.wide 0 P (fun e a' w'=>match e with
   | .normal=>(∃ds:List Nat,a'.defers=ds.map DJ)∧LeavesInM Fence.wide 0 P fn a'.tmps (fun e w'=>∃v g' res post new,Q res post new∧e= .returned v∧Bq w X g pre res post new v w' g') a'.defers .returning w'
   | .ret=>(∃ds:List Nat,a'.defers=ds.map DJ)∧LeavesInM Fence.wide 0 P fn a'.tmps (fun e w'=>∃v g' res post new,Q res post new∧e= .returned v∧Bq w X g pre res post new v w' g') a'.defers .returning w'
   | _=>False) {tmps:=vals++Array.replicate (fn.ntmps - vals.size) undef,defers:=[]} w:=by
 let C:Cx:={M:=AY.of P I,nt:=fn.ntmps,w0:=w,Z0:=zone g (Ae pre),X:=X,g0:=g,hinv:=hI,ro:=none,D:=[],hro:=fun l hl=>(by cases hl),hD:=fun r hr=>(by cases hr),hDn:=List.nodup_nil,hcl:=fun h=>(by cases h)}
 have R0:BX C ⟨slotsOf args 0,A9 pre 0,0⟩ {tmps:=vals++Array.replicate (fn.ntmps - vals.size) undef,defers:=[]} w:=by
  refine EA (P:=P) (by simp[C];omega) rfl (fun t=>?_) RH rfl rfl (fun _ _ h=>h) hX hg
  rcases De args 0 t with h | ⟨x,_,h2,h3⟩
  ·rw[h];trivial
  ·rw[h3]
   simp only[Nat.sub_zero]at h2
   have hlt:t<vals.size:=by rw[hsz];exact (List.getElem?_eq_some_iff.1 h2).1
   have:(vals++Array.replicate (fn.ntmps - vals.size) undef).getD t undef=vals[t]:=by
    simp[Array.getElem?_append,hlt]
   show Ag w _ g _ x ((vals++Array.replicate (fn.ntmps - vals.size) undef).getD t undef)
   rw[this]
   exact hargs' t x _ h2 (by simp[hlt])
 refine wpIn_mono (BS (M:=AY.of P I) (ro:=none) hti h1 (fun C hC hn=>by
  have:=hdr C (by show C.M.P=P;rw[hC];rfl)
  rw[hC,hn]at this
  exact this) c _ _ C _ w rfl rfl rfl (fun h=>by cases h) (hx (AY.of P I) rfl rfl) R0) ?_
 have fin:∀(C':Cx) (σ:St) (a':Act) (w':World),DV C C'→(∃res post new,Q res post new∧DZ ti fn.results.toList σ res post new)→BX C' σ a' w'→
   (∃ds:List Nat,a'.defers=ds.map DJ)∧LeavesInM Fence.wide 0 P fn a'.tmps (fun e w'=>∃v g' res post new,Q res post new∧e= .returned v∧Bq w X g pre res post new v w' g') a'.defers .returning w':=by
  rintro C' σ0 a' w' hle ⟨res,post,new,hQ,gs,hfin⟩ R0
  obtain⟨σ,hweak,hfin⟩:=Bj hfin
  obtain⟨g1,R1⟩:=hweak _ _ _ R0
  have hcf:C'.M.cl=false:=by rw[hle.M];rfl
  refine⟨⟨_,R1.marks hcf⟩,?_⟩
  rw[R1.marks hcf]
  obtain⟨ds,hds,hds2⟩:=hle.marks
  have hds:C'.D=ds:=by rw[hds];exact List.append_nil ds
  refine L9 _ _ C'.hDn (fun r hr=>(R1.kept (C'.hD r hr).1 (C'.hD r hr).2).1) ?_
  have A:=MA C'.D w'
  generalize hw2:C'.D.foldl (fun w r=>w.putObj r (.deferred none)) w'=w2 at A ⊢
  have hsz2:w2.heap.size=w'.heap.size:=by rw[←hw2];exact N5 _ _
  obtain⟨C2,c1,c2,c3,c4,c5,c6,c7,c8,R2⟩:=R1.turned (a':={tmps:=a'.tmps,defers:=[]}) A hsz2 (fun b o hb=>(hds2 b (hds▸hb)).2 o) (fun b hb hd=>(R1.inv.2 b hb).2 0 (.inr ((hds2 b (hds▸hd)).2 0))) rfl none (fun l hl=>by cases hl) rfl hcf
  have hti2:Ao C2.P ti:=by show Ao C2.M.P ti;rw[c1,hle.M];exact hti
  have hP:C2.P=P:=by show C2.M.P=P;rw[c1,hle.M];rfl
  obtain⟨xs,vs,⟨nm,hnd,hres,hpost,hnewo,hhand⟩,hrun,hlen,hrel⟩:=EO (C:=C2) hti2 h1 R2 _ _ hfin
  obtain⟨f1,f2,f3,f4⟩:=finish (X:=X) R2 (fun b o hx=>by rw[c3];exact hle.X b o hx) (Ba.1 hnd) hpost hnewo hhand
  obtain⟨d1,d2,d3⟩:=hle.down R1
  have hrr:=Hk (C:=C2) hrun
  rw[hP]at hrr
  refine⟨_,hrr,_,fun i=>g1 (CY nm σ.next i),res,post,new,hQ,rfl,⟨f1,?_,?_,fun j=>d2 j,fun i ob b o hi hb=>?_,f3⟩⟩
  ·refine f4 res _ ?_
   rw[←hres]
   have other:xs.length≠1→An w2 (Al (zone g1 (AK σ.heap)) C2.X) g1 (AK σ.heap) (.t xs) (.tuple vs.toArray):=fun _=>
    ⟨vs.toArray,rfl,by simpa using hlen,fun j x v hx hv=>hrel j x v hx (by simpa using hv)⟩
   match xs,vs,hlen,hrel,other with
   | [x],[v],_,hrel,_=>exact hrel 0 x v rfl rfl
   | [],[],_,_,other=>exact other (by simp)
   | x::y::xs,v::u::vs,hl,_,other=>
    have:¬(v::u::vs).toArray.size=1:=by simp
    simp only[dif_neg this]
    exact other (by simp)
  ·exact d1.then (Z':=fun b _=>b∈C'.D) ⟨A.os,A.tape,A.output,A.size,fun b hb hn=>A.block b hb (hn 0),fun b o u hu hn=>A.cell hu hn⟩ (fun p o hp=>.inr (hds2 p (hds▸hp)).1)
  ·obtain⟨j,ob',hj,hz⟩:=f2 i ob b o hi hb
   exact d3 j ob' b o hj hz
 intro e a' w' hq
 cases e with
 | normal=>obtain⟨C',hle,σ,hf',hr⟩:=hq;exact fin C' σ a' w' hle hf' hr
 | ret=>obtain⟨C',hle,σ,hf',hr⟩:=hq;exact fin C' σ a' w' hle hf' hr
 | exit id=>obtain⟨C',hle,σ,hf',hr⟩:=hq;exact hf'.elim
 | goto l=>exact hq.elim
 | panic ch=>obtain⟨C',hle,v0,s,h,nx,hpn,_⟩:=hq;rw[hle.M]at hpn;exact hpn.elim
 | outgrown=>exact hq.elim
theorem Bk.intro {P:Program}{I:Inv}{ti:Types}(dr:AY→Nat→LB) (hti:Ao P ti) (h1:BB ti) (hdr:∀C:Cx,C.P=P→D9 C (dr C.M C.nt)) {f:FuncId}{fn:Func}{c:Code}(hf:P.funcs[f]?=some fn) (hb:fn.body=some c)
  (hname:(fn.name== "runtime.NumGoroutine")=false) {args:List V1} {pre:List AB} {Q:AV→List AB→List AB→Prop} (hargs:args.length≤fn.ntmps)
  (hx:∀M:AY,M.P=P→M.I=I→exec M ti fn.ntmps (dr M fn.ntmps) c ⟨slotsOf args 0,A9 pre 0,0⟩ fun e σ=>match e with
   | .exit _=>False
   | .normal=>∃res post new,Q res post new∧DZ ti fn.results.toList σ res post new
   | .ret=>∃res post new,Q res post new∧DZ ti fn.results.toList σ res post new):Bk P I f args pre Q:=by
 refine⟨⟨fn,c,hf,hb,hname⟩,fun w X g vals hX hI RH hg hsz hargs'=>callsIn_wide.1 (callsIn_of_wp_marks (n:=0) hf hb trivial (wpIn_mono (Bk.body dr hti h1 hdr hf hb hname hargs hx w X g vals hX hI RH hg hsz hargs') ?_))⟩
 intro e a' w' hq
 cases e with
 | normal=>exact hq.2
 | ret=>exact hq.2
 | exit id=>exact hq.elim
 | goto l=>exact hq.elim
 | panic ch=>exact hq.elim
 | outgrown=>exact hq.elim
end Go.AM
namespace Go.AM
open Go Go.RowKit
def Ps:List Tmp→List V1→List (Nat×AV)→List (Nat×AV)
 | p::ps,x::xs,s=>Ps ps xs ((p,.v x)::s)
 | _,_,s=>s
theorem TQ {ps:Array Tmp}{vals tmps:Array Value}:(Em ps vals tmps).size=tmps.size:=by
 unfold Em
 rw[←Array.foldl_toList]
 generalize (ps.zip vals).toList=l
 induction l generalizing tmps with
 | nil=>rfl
 | cons x l ih=>
  simp only[List.foldl_cons]
  exact ih.trans (by simp)
theorem Pt {w:World}{Z:Ad}{g:AL}{h:AE}:∀{ps:List Tmp}{xs:List V1}{vs:List Value}{s:List (Nat×AV)}{tmps:Array Value},xs.length=ps.length→vs.length=xs.length→(∀p∈ps,p<tmps.size)→
  (∀(j:Nat) x v,xs[j]?=some x→vs[j]?=some v→Ag w Z g h x v)→(∀t,An w Z g h (AH s t) (tmps.getD t undef))→
  ∀t,An w Z g h (AH (Ps ps xs s) t) (((ps.zip vs).foldl (fun t x=>t.setIfInBounds x.1 x.2) tmps).getD t undef)
 | [],[],[],s,tmps,_,_,_,_,hs=>hs
 | p::ps,x::xs,v::vs,s,tmps,h1,h2,h3,h4,hs=>by
  refine Pt (ps:=ps) (xs:=xs) (vs:=vs) (by simpa using h1) (by simpa using h2) (fun q hq=>by simpa using h3 q (by simp[hq])) (fun j x v hx hv=>h4 (j+1) x v (by simpa using hx) (by simpa using hv)) ?_
  intro t
  rw[Ai]
  simp only[]
  split
  ·subst t
   have:=h3 p (by simp)
   rw[Array.getD_eq_getD_getElem?,Array.getElem?_setIfInBounds_self_of_lt this]
   exact h4 0 x v rfl rfl
  ·rename_i hne
   rw[Array.getD_eq_getD_getElem?,Array.getElem?_setIfInBounds_ne (Ne.symm hne),←Array.getD_eq_getD_getElem?]
   exact hs t
 | [],_::_,_,_,_,h1,_,_,_,_=>by simp at h1
 | _::_,[],_,_,_,h1,_,_,_,_=>by simp at h1
 | [],[],_::_,_,_,_,h2,_,_,_=>by simp at h2
 | _::_,_::_,[],_,_,_,h2,_,_,_=>by simp at h2
def EB:B5→Jump
 | .normal=>none
 | .ret=>some none
 | .exit id=>some (some id)
def iM (σ:St) (post new:List AB):Prop:=
 ∃gs,gh gs σ fun σ=>∃nm:List Id,nodupB nm=true∧DY (AK σ.heap) (CY nm σ.next) post 0∧Ix (AK σ.heap) (CY nm σ.next) new nm∧FR post nm
theorem Gv.intro {P:Program}{I:Inv}{ti:Types}(dr:AY→Nat→LB) (hti:Ao P ti) (h1:BB ti) (hdr:∀C:Cx,C.P=P→D9 C (dr C.M C.nt)) {r:RF}{sl:List (Nat×AV)}{args:List V1}{pre:List AB}{Q:Jump→List AB→List AB→Prop}
  (hlen:args.length=r.params.size) (hps:BP (fun p=>Nat.blt p r.nt) r.params.toList=true)
  (hx:∀M:AY,M.P=P→M.I=I→exec M ti r.nt (dr M r.nt) r.assign ⟨Ps r.params.toList args sl,A9 pre 0,0⟩ fun e σ=>match e with
   | .normal=>exec M ti r.nt (dr M r.nt) r.body σ fun e σ=>∃post new,Q (EB e) post new∧iM σ post new
   | _=>False):Gv P I r sl args pre Q:=by
 refine⟨hlen,?_⟩
 intro l L w X g vals hX hXl hl l1 l2 l3 l4 l5 l6 hI RH hg hsz hargs hsl
 have hlt:l<w.heap.size:=(Array.getElem?_eq_some_iff.1 hl).1
 have noz:∀{X:Ad} {w:World} {g:AL} {h:AE},C9 w X g h→(∀o,X l o)→∀o,¬zone g h l o:=by
  rintro X w g h RH hx o ⟨i,ob,hi,hz⟩
  exact RH.apart i ob l o hi hz.F7 (hx o)
 let C:Cx:={M:=AY.of P I,nt:=r.nt,w0:=w,Z0:=zone g (Ae pre),X:=X,g0:=g,hinv:=hI,ro:=some l,D:=[],hro:=fun l' hl'=>(by cases hl';exact⟨⟨L,hl⟩,noz RH hXl⟩),hD:=fun r hr=>(by cases hr),hDn:=List.nodup_nil,hcl:=fun h=>(by cases h)}
 have hdr':∀C':Cx,C'.M=AY.of P I→C'.nt=r.nt→D9 C' (dr (AY.of P I) r.nt):=fun C' hC hn=>by
  have:=hdr C' (by show C'.M.P=P;rw[hC];rfl)
  rw[hC,hn]at this
  exact this
 have R0:BX C ⟨Ps r.params.toList args sl,A9 pre 0,0⟩ {tmps:=Em L.params vals L.tmps,defers:=[]} w:=by
  refine EA (P:=P) (by show (Em L.params vals L.tmps).size=r.nt;rw[TQ];exact l6) rfl (fun t=>?_) RH rfl rfl (fun _ _ h=>h) hX hg
  have:=Pt (ps:=r.params.toList) (xs:=args) (vs:=vals.toList) (s:=sl) (tmps:=L.tmps) (by simpa using hlen) (by simpa using hsz) (fun p hp=>by
   have:=Az.1 hps p hp
   rw[l6]
   exact Nat.lt_of_succ_le (by simpa [Nat.blt] using this)) (fun j x v hx hv=>hargs j x v hx (by simpa using hv)) hsl t
  show An _ _ _ _ _ ((Em L.params vals L.tmps).getD t undef)
  unfold Em
  rw[l3,←Array.foldl_toList,Array.toList_zip]
  exact this
 have h1x:=hx (AY.of P I) rfl rfl
 refine roundIn_of_wpIn (F:=Fence.wide) trivial ?_
 rw[l4,l5]
 refine wpIn_mono (BS (M:=AY.of P I) (ro:=some l) hti h1 hdr' r.assign _ _ C _ w rfl rfl rfl (fun h=>by cases h) h1x R0) ?_
 intro e a1 w1 hq
 cases e with
 | normal=>
  obtain⟨C1,hle,σ1,hk1,g1,R1⟩:=hq
  obtain⟨d1,d2,d3⟩:=hle.down R1
  have hXl1:∀o,C1.X l o:=fun o=>hle.X l o (hXl o)
  have hl1:w1.heap[l]?=some (.loop L):=(d1.block l hlt (noz RH hXl)).trans hl
  have hlt1:l<w1.heap.size:=(Array.getElem?_eq_some_iff.1 hl1).1
  refine⟨w1.putObj l (.loop {L with state:=.busy}),run_beginRound hl1 l1,?_⟩
  have A:El (fun b=>b=l) w1 (w1.putObj l (.loop {L with state:=.busy})):=⟨rfl,rfl,rfl,by simp,fun b _ hb=>World.putObj_heap_other hb⟩
  have hl2:(w1.putObj l (.loop {L with state:=.busy})).heap[l]?=some (.loop {L with state:=.busy}):=World.putObj_heap_same hlt1
  have hc1:C1.M.cl=false:=by rw[hle.M];rfl
  obtain⟨C2,c1,c2,c3,c4,c5,c6,c7,c8,R2⟩:=R1.turned (a':={tmps:=a1.tmps,defers:=[]}) A World.putObj_size (fun b o hb=>by subst hb;exact hXl1 o) (fun b hb hd=>(R1.inv.2 b hb).2 0 (.inr (by subst hd;exact hXl1 0))) rfl (some l) (fun l' hl'=>by cases hl';exact⟨⟨_,hl2⟩,hXl1⟩) rfl hc1
  have ha1:a1={tmps:=a1.tmps,defers:=[]}:=by
   have hd:=R1.marks hc1
   rw[hle.same (by simp[C])]at hd
   show a1=⟨a1.tmps,[]⟩
   rw[←show a1.defers=[]from hd]
  rw[ha1]
  refine wpIn_mono (BS (M:=AY.of P I) (ro:=some l) hti h1 hdr' r.body σ1 _ C2 _ _ (c1.trans hle.M) (c2.trans hle.nt) c4 (fun h=>by cases h) hk1 ⟨g1,R2⟩) ?_
  have fin:∀(e:B5) (a2:Act) (w3:World),(∃C3,DV C2 C3∧∃σ,(∃post new,Q (EB e) post new∧iM σ post new)∧BX C3 σ a2 w3)→
    ∃v w',(Instr.endRound l ((EB e).map FK)).run P w3= .ok v w'∧∃jump g' post new,Q jump post new∧Ending.returned v= .returned (.bool jump.isNone)∧Pj l L w X g pre jump post new w' g':=by
   rintro e a2 w3 ⟨C3,hle3,σ0,⟨post,new,hQ,gs,hfin⟩,R3⟩
   obtain⟨σ,hweak,nm,hnd,hpost,hnewo,hhand⟩:=Bj hfin
   obtain⟨g3,R3⟩:=hweak _ _ _ R3
   obtain⟨f1,f2,f3⟩:=hle3.down R3
   have hXl3:∀o,C3.X l o:=fun o=>hle3.X l o (by rw[c3];exact hXl1 o)
   have hz2:∀o,¬C2.Z0 l o:=by rw[c6];exact noz R1.heap hXl1
   have hl3:w3.heap[l]?=some (.loop {L with state:=.busy}):=by
    have:=f1.block l (by rw[c5,World.putObj_size];exact hlt1) hz2
    rw[c5]at this
    exact this.trans hl2
   have hlt3:l<w3.heap.size:=(Array.getElem?_eq_some_iff.1 hl3).1
   refine⟨_,_,run_endRound _ hl3,?_⟩
   have A3:El (fun b=>b=l) w3 (w3.putObj l (.loop {L with state:=if ((EB e).map FK).isNone then .ready else .done,pending:=(EB e).map FK})):=⟨rfl,rfl,rfl,by simp,fun b _ hb=>World.putObj_heap_other hb⟩
   have hc3:C3.M.cl=false:=by rw[hle3.M,c1];exact hc1
   obtain⟨C4,k1,k2,k3,k4,k5,k6,k7,k8,R4⟩:=R3.turned (a':={tmps:=a2.tmps,defers:=[]}) A3 World.putObj_size (fun b o hb=>by subst hb;exact hXl3 o) (fun b hb hd=>(R3.inv.2 b hb).2 0 (.inr (by subst hd;exact hXl3 0))) rfl none (fun l' hl'=>by cases hl') rfl hc3
   obtain⟨q1,q2,q3,_⟩:=finish (X:=X) R4 (fun b o hx=>by rw[k3];exact hle3.X b o (by rw[c3];exact hle.X b o hx)) (Ba.1 hnd) hpost hnewo hhand
   have isn:((EB e).map FK).isNone=(EB e).isNone:=by cases EB e<;>rfl
   have zin:∀b o,C2.Z0 b o→zone g (Ae pre) b o∨w.heap.size≤b:=by
    intro b o hz
    rw[c6]at hz
    obtain⟨i,ob,hi,h3⟩:=hz
    exact d3 i ob b o hi h3
   have fr:BZ (fun b o=>zone g (Ae pre) b o∨b=l) w (w3.putObj l (.loop {L with state:=if ((EB e).map FK).isNone then .ready else .done,pending:=(EB e).map FK})):=by
    have s1:BZ (fun b o=>zone g (Ae pre) b o∨b=l) w w1:=d1.weaken (fun b o h=>.inl h)
    have one:∀{a b:World},El (fun b=>b=l) a b→BZ (fun b _=>b=l) a b:=fun A=>⟨A.os,A.tape,A.output,A.size,fun b hb hn=>A.block b hb (fun e=>hn 0 e),fun b o u hu hn=>A.cell hu hn⟩
    have s2:=s1.then (one A) (fun p o h=>.inl (.inr h))
    have s3:=s2.then (by have:=f1;rw[c5]at this;exact this) (fun p o h=>(zin p o h).imp .inl id)
    exact s3.then (one A3) (fun p o h=>.inl (.inr h))
   refine⟨EB e,fun i=>g3 (CY nm σ.next i),post,new,hQ,by rw[isn],⟨q1,fr,?_,fun j=>?_,fun i ob b o hi hb=>?_,q3⟩⟩
   ·rw[World.putObj_heap_same hlt3,isn]
   ·have e1:=d2 j
    have e2:=f2 j
    rw[c7]at e2
    exact e1.trans e2
   ·obtain⟨j,ob',hj,hz⟩:=q2 i ob b o hi hb
    rcases f3 j ob' b o hj hz with h | h
    ·exact zin b o h
    ·rw[c5,World.putObj_size]at h
     exact .inr (Nat.le_trans d1.size h)
  intro e a2 w3 hq
  cases e with
  | normal=>exact fin .normal a2 w3 hq
  | ret=>exact fin .ret a2 w3 hq
  | exit id=>exact fin (.exit id) a2 w3 hq
  | goto l=>exact hq.elim
  | panic ch=>obtain⟨C',hle',v0,s,h,nx,hpn,_⟩:=hq;rw[hle'.M,c1.trans hle.M]at hpn;exact hpn.elim
  | outgrown=>exact hq.elim
 | exit id=>obtain⟨_,_,_,hk,_⟩:=hq;exact hk.elim
 | ret=>obtain⟨_,_,_,hk,_⟩:=hq;exact hk.elim
 | goto l=>exact hq.elim
 | panic ch=>obtain⟨C',hle,v0,s,h,nx,hpn,_⟩:=hq;rw[hle.M]at hpn;exact hpn.elim
 | outgrown=>exact hq.elim
end Go.AM
namespace Go.AM
open Go Go.RowKit
theorem Ut {P:Program}{ti:Types}(hti:Ao P ti) (h1:BB ti) (hm:P.follows .mixedOrders=true):∀C:Cx,C.P=P→D9 C (A4 ti C.M C.nt):=fun C hC=>by
 have hti':Ao C.P ti:=by rw[hC];exact hti
 have hm':C.P.follows .mixedOrders=true:=by rw[hC];exact hm
 exact cP hti' h1 hm'
theorem Bk.of {P:Program}{I:Inv}{ti:Types}(hti:Ao P ti) (h1:BB ti) (hm:P.follows .mixedOrders=true) {f:FuncId}{fn:Func}{c:Code}(hf:P.funcs[f]?=some fn) (hb:fn.body=some c)
  (hname:(fn.name== "runtime.NumGoroutine")=false) {args:List V1} {pre:List AB} {Q:AV→List AB→List AB→Prop} {nt:Nat} (hnt:fn.ntmps=nt) (hargs:Nat.ble args.length nt=true) {rs:List ResultVar} (hrs:fn.results.toList=rs)
  (hx:∀M:AY,M.P=P→M.I=I→exec M ti nt (A4 ti M nt) c ⟨slotsOf args 0,A9 pre 0,0⟩ fun e σ=>match e with
   | .exit _=>False
   | .normal=>∃res post new,Q res post new∧DZ ti rs σ res post new
   | .ret=>∃res post new,Q res post new∧DZ ti rs σ res post new):Bk P I f args pre Q:=by
 subst hnt
 subst hrs
 exact Bk.intro (fun M nt=>A4 ti M nt) hti h1 (Ut hti h1 hm) hf hb hname (Nat.le_of_ble_eq_true hargs) hx
theorem Bf.of {P:Program}{I:Inv}{ti:Types}(hti:Ao P ti) (h1:BB ti) (hm:P.follows .mixedOrders=true) {f:FuncId}{fn:Func}{c:Code}(hf:P.funcs[f]?=some fn) (hb:fn.body=some c)
  (hname:(fn.name== "runtime.NumGoroutine")=false) {args:List V1} {pre post new:List AB} {res:AV} {nt:Nat} (hnt:fn.ntmps=nt) (hargs:Nat.ble args.length nt=true) {rs:List ResultVar} (hrs:fn.results.toList=rs)
  (hx:∀M:AY,M.P=P→M.I=I→exec M ti nt (A4 ti M nt) c ⟨slotsOf args 0,A9 pre 0,0⟩ fun e σ=>match e with
   | .exit _=>False
   | .normal=>∃r p n,(r=res∧p=post∧n=new)∧DZ ti rs σ r p n
   | .ret=>∃r p n,(r=res∧p=post∧n=new)∧DZ ti rs σ r p n):Bf P I f args pre res post new:=
 Bk.of hti h1 hm hf hb hname hnt hargs hrs hx
theorem Br {ti:Types}{rs:List ResultVar}{σ:St}{res:AV}{post new:List AB}(h:Fy ti σ rs fun xs=>∃nm:List Id,nodupB nm=true∧N1 xs=res.Ar (CY nm σ.next)∧DY (AK σ.heap) (CY nm σ.next) post 0∧Ix (AK σ.heap) (CY nm σ.next) new nm∧FR post nm):
  ∃r p n,(r=res∧p=post∧n=new)∧DZ ti rs σ r p n:=⟨_,_,_,⟨rfl,rfl,rfl⟩,[],h⟩
theorem Bk.at {P:Program}{I:Inv}{M:AY}{f:FuncId}{args:List V1}{pre:List AB}{Q:AV→List AB→List AB→Prop}(hP:M.P=P) (hI:M.I=I) (h:Bk P I f args pre Q):Bk M.P M.I f args pre Q:=by rw[hP,hI];exact h
theorem Gv.of {P:Program}{I:Inv}{M:AY}(hP:M.P=P) (hI:M.I=I) {ti:Types}(hti:Ao P ti) (h1:BB ti) (hm:P.follows .mixedOrders=true) {r:RF}{sl:List (Nat×AV)}{args:List V1}{pre:List AB}{Q:Jump→List AB→List AB→Prop}{nt:Nat}{ps:List Tmp}{ca cb:Code}
  (hnt:r.nt=nt) (hpl:r.params.toList=ps) (ha:r.assign=ca) (hb:r.body=cb) (hlen:args.length=ps.length) (hps:BP (fun p=>Nat.blt p nt) ps=true)
  (hx:∀M:AY,M.P=P→M.I=I→exec M ti nt (A4 ti M nt) ca ⟨Ps ps args sl,A9 pre 0,0⟩ fun e σ=>match e with
   | .normal=>exec M ti nt (A4 ti M nt) cb σ fun e σ=>∃post new,Q (EB e) post new∧iM σ post new
   | _=>False):Gv M.P M.I r sl args pre Q:=by
 subst hnt
 subst hpl
 subst ha
 subst hb
 rw[hP,hI]
 exact Gv.intro (fun M nt=>A4 ti M nt) hti h1 (Ut hti h1 hm) (by simpa using hlen) hps hx
section
variable {M:AY}{A:Bool→Prop}
theorem Dr {a b:Int}(h1:a=b→A true) (h0:a≠b→A false):M.split (M.eqI a b) A:=by
 rw[M.split_iff,M.eqI_eq]
 by_cases h:a=b
 ·rw[beq_iff_eq.2 h];exact h1 h
 ·rw[beq_eq_false_iff_ne.2 h];exact h0 h
theorem FT {a b:Int}(h1:a<b→A true) (h0:b≤a→A false):M.split (M.ltI a b) A:=by
 rw[M.split_iff,M.ltI_eq]
 by_cases h:a<b
 ·rw[decide_eq_true h];exact h1 h
 ·rw[decide_eq_false h];exact h0 (by omega)
theorem iP {a b:ByteArray}(h1:(a.toList==b.toList)=true→A true) (h0:(a.toList==b.toList)=false→A false):M.split (M.eqS a b) A:=by
 rw[M.split_iff,M.eqS_eq]
 cases h:(a.toList==b.toList)
 ·exact h0 h
 ·exact h1 h
end
section
variable {M:AY}{f:FuncId}{args:List V1}{fresh:Nat}{h:AE}{k:Out→Prop}{targs:List V1}{res:AV}
theorem BU {P:Program}{I:Inv}(hP:M.P=P) (hI:M.I=I) (ht:Bf P I f targs [] res [] []) (he:args=targs.map (V1.Ar (Av [] fresh))) (hk:k ⟨res.Ar (Av [] fresh),[],[]⟩):
  M.lock fun _=>IK M.P M.I f args fresh h k:=
 (M.lock_iff _).2 ⟨[],targs,[],res,[],[],hP▸hI▸ht,he,rfl,List.nodup_nil,by simp,trivial,by simp,hk⟩
theorem Uu {ti:Types}{o:Oper}{c:Call}{x:Operand}{s:AN}(ho:o.op= .call c) (hc:c.callee= .value x) (hk:JA h (fun h'=>Ab M ti o fresh s h') k):CI M ti o fresh s h k:=by
 unfold CI
 rw[ho]
 simp only[]
 rw[hc]
 exact .inr (.inl hk)
theorem E0 {ti:Types}{o:Oper}{c:Call}{x:Operand}{s:AN}{X:Prop}(ho:o.op= .call c) (hc:c.callee= .value x) (hk:Ab M ti o fresh s h k):M.lock fun _=>CI M ti o fresh s h k∨X:=
 (M.lock_iff _).2<| .inl<| Uu ho hc ⟨[],hk⟩
end
theorem drawn {M:AY}{p:Unit→Prop}{K:Prop}(hd:p ()) (hk:K):M.lock p∧K:=⟨(M.lock_iff _).2 hd,hk⟩
theorem Y0 {M:AY}{ex:St→(B5→St→Prop)→Prop}{σ:St}{K:B5→St→Prop}(ks:List Nat) (is:List Id) (nx:Nat) {T:Type}(S:T→St) (I:T→Prop) (m:T→Nat) (t0:T)
  (hI:I t0) (h0:Fj ks is nx σ (·=S t0))
  (hr:∀t,I t→ex (S t) fun e σ2=>match e with
   | .normal=>∃n' σ3,n'<m t∧A8 σ2 σ3∧∃t',I t'∧n'=m t'∧σ3=S t'
   | .exit id=>K (.exit id) σ2
   | .ret=>K .ret σ2):M.lock fun _=>S8 ex σ K∨∃n,IW M ex K n σ:=by
 refine (M.lock_iff _).2<| .inl ⟨fun n σ=>∃t,I t∧n=m t∧σ=S t,m t0,?_,?_⟩
 ·obtain⟨σ',hw,e⟩:=Gd h0
  exact⟨σ',hw,t0,hI,rfl,e⟩
 ·rintro n σ1 ⟨t,h1,rfl,rfl⟩
  exact hr t h1
theorem XE {M:AY}{ex:St→(B5→St→Prop)→Prop}{σ:St}{K:B5→St→Prop}(tr:List Ur) (ks:List Nat) (is:List Id) (nx:Nat) {T:Type}(S:T→St) (I:T→Prop) (m:T→Nat) (t0:T)
  (hI:I t0) (h0:Qz (fun σ=>Fj ks is nx σ (·=S t0)) tr σ)
  (hr:∀t,I t→ex (S t) fun e σ2=>match e with
   | .normal=>∃n' σ3,n'<m t∧A8 σ2 σ3∧∃t',I t'∧n'=m t'∧σ3=S t'
   | .exit id=>K (.exit id) σ2
   | .ret=>K .ret σ2):M.lock fun _=>S8 ex σ K∨∃n,IW M ex K n σ:=by
 refine (M.lock_iff _).2<| .inl ⟨fun n σ=>∃t,I t∧n=m t∧σ=S t,m t0,?_,?_⟩
 ·obtain⟨σ1,hw1,h1⟩:=Hj h0
  obtain⟨σ',hw,e⟩:=Gd h1
  exact⟨σ',A8.trans hw1 hw,t0,hI,rfl,e⟩
 ·rintro n σ1 ⟨t,h1,rfl,rfl⟩
  exact hr t h1
theorem Pu {T:Type}{m:T→Nat}{I:T→Prop}{S:T→St}{σ2:St}{k:Nat}(t':T) (ks:List Nat) (is:List Id) (nx:Nat) (hI:I t') (hm:m t'<k) (hk:Fj ks is nx σ2 (·=S t')):
  ∃n' σ3,n'<k∧A8 σ2 σ3∧∃t',I t'∧n'=m t'∧σ3=S t':=by
 obtain⟨σ',hw,e⟩:=Gd hk
 exact⟨m t',σ',hm,hw,t',hI,rfl,e⟩
section
variable {M:AY}{L L':List D}{N i:Int}(hN:0≤N∧L.length=N.toNat)
include hN
end
end Go.AM
namespace Go.AM
open Go Go.RowKit
def mY (p:Id→Bool):FC→Bool
 | .p i=>p i
 | _=>true
def cS (p:Id→Bool):CV→Bool
 | .ptr i _=>p i
 | .fn _ cap=>BP p cap
 | .lst i _ _ _=>p i
 | .sl i _=>p i
 | .map i=>p i
 | .ap i _ _ _ _=>p i
 | .ow i=>p i
 | .op i _ _ _=>p i
 | .yl i=>p i
 | .bm _ i=>p i
 | .fz _ cs=>BP (mY p) cs
 | .fb i=>p i
 | _=>true
def kD (p:Id→Bool):V1→Bool
 | .d _=>true
 | .c x=>cS p x
 | .agg cs=>BP (cS p) cs
def fD (p:Id→Bool):AV→Bool
 | .u=>true
 | .v x=>kD p x
 | .t xs=>BP (kD p) xs
 | .df _ cs _=>BP (mY p) cs
def KC (p:Id→Bool):AB→Bool
 | .cells cs=>BP (cS p) cs
 | .tok ..=>true
 | .map ..=>true
 | .arr cs1 _ _ _ cs2=>match BP (cS p) cs1 with
  | true=>BP (cS p) cs2
  | false=>false
 | .tree _ _ _ _ foc=>match foc with
  | some x=>BP (cS p) x.2
  | none=>true
 | .pmap _ _ _ _ foc=>match foc with
  | some x=>p x.2
  | none=>true
 | .part ..=>true
 | .fnl _ cs _=>BP (mY p) cs
 | .gone=>true
 | .rnd _ sl=>BP (fun x=>fD p x.2) sl
 | .rndX _=>true
section
variable {p:Id→Bool}{f e:Id→Id}(hp:∀i,p i=true→f (e i)=i)
include hp
theorem Q6 {cs:List FC}(h:BP (mY p) cs=true):(cs.map (FC.Ar e)).map (FC.Ar f)=cs:=by
 rw[List.map_map]
 rw[Az]at h
 refine B3 fun c hc=>?_
 have:=h c hc
 cases c with
 | p i=>simp only[Function.comp,FC.Ar];rw[hp _ this]
 | d x=>rfl
 | h=>rfl
theorem Y1 {c:CV}(h:cS p c=true):(c.Ar e).Ar f=c:=by
 cases c<;>simp only[CV.Ar,cS]at h ⊢
 ·rw[hp _ h]
 ·rw[List.map_map]
  congr 1
  rw[Az]at h
  exact B3 fun i hi=>hp _ (h i hi)
 ·rw[hp _ h]
 ·rw[hp _ h]
 ·rw[hp _ h]
 ·rw[hp _ h]
 ·rw[hp _ h]
 ·rw[hp _ h]
 ·rw[hp _ h]
 ·rw[hp _ h]
 ·rw[Q6 hp h]
 ·rw[hp _ h]
theorem KD {cs:List CV}(h:BP (cS p) cs=true):(cs.map (CV.Ar e)).map (CV.Ar f)=cs:=by
 rw[List.map_map]
 rw[Az]at h
 exact B3 fun i hi=>Y1 hp (h i hi)
theorem Q7 {c:V1}(h:kD p c=true):(c.Ar e).Ar f=c:=by
 cases c<;>simp only[V1.Ar,kD]at h ⊢
 ·rw[Y1 hp h]
 ·rw[KD hp h]
theorem Q8 {c:AV}(h:fD p c=true):(c.Ar e).Ar f=c:=by
 cases c<;>simp only[AV.Ar,fD]at h ⊢
 ·rw[Q7 hp h]
 ·rw[List.map_map]
  congr 1
  rw[Az]at h
  exact B3 fun i hi=>Q7 hp (h i hi)
 ·rw[Q6 hp h]
theorem KE {c:AB}(h:KC p c=true):(c.Ar e).Ar f=c:=by
 cases c<;>simp only[AB.Ar,KC]at h ⊢
 ·rw[KD hp h]
 ·split at h
  ·rename_i h1
   rw[KD hp h,KD hp h1]
  ·cases h
 ·congr 1
  split at h
  ·show some (_,List.map (CV.Ar f) (List.map (CV.Ar e) _))=_
   rw[KD hp h]
  ·rfl
 ·congr 1
  split at h
  ·show some (_,f (e _))=_
   rw[hp _ h]
  ·rfl
 ·rw[Q6 hp h]
 ·rw[List.map_map]
  congr 1
  rw[Az]at h
  refine B3 fun i hi=>?_
  show (i.1,(i.2.Ar e).Ar f)=i
  rw[Q8 hp (h i hi)]
end
theorem Y2 {σ σ':St}(r:Id→Id) (hext:∀j,r (.ext j)= .ext j) (hbig:∀n,σ'.next≤n→∃N,σ.next≤N∧r (.loc n)= .loc N)
  (hs:∀t,AH σ'.slots t= .u∨AH σ.slots t=(AH σ'.slots t).Ar r) (hh:∀i o,AK σ'.heap i=some o→AK σ.heap (r i)=some (o.Ar r))
  (hinj:∀i j o o',AK σ'.heap i=some o→AK σ'.heap j=some o'→r i=r j→i=j) (hlow:∀n,σ'.next≤n→AK σ'.heap (.loc n)=none):A8 σ σ':=by
 rintro C a w ⟨g,R⟩
 let g':AL:=fun i=>g (r i)
 have hz:∀b o,zone g' (AK σ'.heap) b o→zone g (AK σ.heap) b o:=by
  rintro b o ⟨i,ob,hi,h1⟩
  exact⟨r i,_,hh i ob hi,Co.2 h1⟩
 have hzz:∀b o,Al (zone g' (AK σ'.heap)) C.X b o→Al (zone g (AK σ.heap)) C.X b o:=fun b o hx=>hx.imp (hz b o) id
 have ht:∀i n sz e,AK σ'.heap i=some (.tok n sz e)→AK σ.heap (r i)=some (.tok n sz e):=fun i n sz e hi=>hh i _ hi
 have hw:∀i,isLive (AK σ'.heap i)=true→isLive (AK σ.heap (r i))=true:=by
  intro i hi
  cases hc:AK σ'.heap i with
  | none=>rw[hc]at hi;cases hi
  | some o=>
   rw[hh i o hc]
   rw[hc]at hi
   exact DS.trans hi
 have hdf:DH w (Al (zone g' (AK σ'.heap)) C.X) g' C.M.cl (AH σ'.slots DT) a.defers C.D:=by
  rcases hs DT with e | e
  ·rw[e];exact R.defers.un (by simp)
  ·have:=R.defers
   rw[e]at this
   exact DH.pull (r:=r) hzz (fun _=>rfl) this
 refine⟨g',R.size,hdf,fun t=>?_,⟨fun i o hi=>BH.pull (r:=r) (g':=g') hzz (fun _=>rfl) ht hw (R.heap.objs _ _ (hh i o hi)),fun i j oi oj b hi hj bi bj=>?_,fun i oi b o hi bi=>R.heap.apart _ _ b o (hh i oi hi) (DA.2 bi)⟩,R.frame,fun j=>?_,
  fun j ob b o hj hz'=>R.within _ _ b o (hh j ob hj) (Co.2 hz'),R.xs,fun n hn=>⟨?_,hlow n hn⟩⟩
 ·rcases hs t with e | e
  ·rw[e];trivial
  ·have:=R.slots t
   rw[e]at this
   exact An.pull (r:=r) hzz (fun _=>rfl) ht hw this
 ·exact hinj i j oi oj hi hj (R.heap.sep _ _ _ _ b (hh i oi hi) (hh j oj hj) (DA.2 bi) (DA.2 bj))
 ·show CQ (C.g0 (.ext j)) (g (r (.ext j)))
  rw[hext]
  exact R.ext j
 ·obtain⟨N,hN,e⟩:=hbig n hn
  show g (r (.loc n))=undef
  rw[e]
  exact (R.free N hN).1
def fE:List (Nat×Nat)→Nat→Option Nat
 | [],_=>none
 | (a,b)::l,k=>match Nat.beq a k with
  | true=>some b
  | false=>fE l k
def fF:List (Nat×Nat)→Nat→Option Nat
 | [],_=>none
 | (a,b)::l,k=>match Nat.beq b k with
  | true=>some a
  | false=>fF l k
def Eb (l:List (Nat×Nat)):Id→Id
 | .ext j=>.ext j
 | .loc k=>match fE l k with
  | some m=>.loc m
  | none=>.loc k
def N6 (l:List (Nat×Nat)):Id→Id
 | .ext j=>.ext j
 | .loc k=>match fF l k with
  | some m=>.loc m
  | none=>.loc k
def KF (l:List (Nat×Nat)) (n:Nat) (i:Id):Bool:=
 match Id.beq (N6 l (Eb l i)) i with
 | true=>J3 n (Eb l i)
 | false=>false
def XF (l:List (Nat×Nat)):List (Nat×AV)→List (Nat×AV)
 | []=>[]
 | (t,x)::r=>(t,x.Ar (Eb l))::XF l r
def PF (l:List (Nat×Nat)):List (Id×AB)→List (Id×AB)
 | []=>[]
 | (i,x)::r=>(Eb l i,x.Ar (Eb l))::PF l r
def Y3 (ks:List Nat) (is:List Id) (n:Nat) (l:List (Nat×Nat)) (σ:St) (K:St→Prop):Prop:=
 match L8 σ.heap is with
 | none=>False
 | some hp=>Ay (BP (fun x:Nat×AV=>fD (KF l n) x.2) (Hg σ.slots ks))<| Ay (BP (fun x:Id×AB=>match KF l n x.1 with | true=>KC (KF l n) x.2 | false=>false) hp)<|
   K ⟨XF l (Hg σ.slots ks),PF l hp,n⟩
theorem Y4 {l:List (Nat×Nat)}{s:List (Nat×AV)}(t:Nat):AH (XF l s) t=(AH s t).Ar (Eb l):=by
 induction s with
 | nil=>rfl
 | cons x s ih=>
  obtain⟨k,v⟩:=x
  show AH ((k,v.Ar (Eb l))::XF l s) t=_
  rw[Ai,Ai]
  simp only[]
  split
  ·rfl
  ·exact ih
theorem TR {l:List (Nat×Nat)}{p:Id→Bool}{f:Id→Id}(hp:∀i,p i=true→f (Eb l i)=i):∀{s:List (Id×AB)},(∀x∈s,p x.1=true)→∀{i:Id}{o:AB},AK (PF l s) i=some o→p (f i)=true∧Eb l (f i)=i∧∃o',AK s (f i)=some o'∧o=o'.Ar (Eb l)
 | [],_,i,o,h=>by simp[PF,AK]at h
 | (k,v)::s,hs,i,o,h=>by
  have hk:=hs (k,v) (by simp)
  rw[show PF l ((k,v)::s)=(Eb l k,v.Ar (Eb l))::PF l s from rfl,Cp]at h
  simp only[AJ]at h
  by_cases e:i=Eb l k
  ·rw[if_pos e]at h
   simp at h
   have hf:f i=k:=by rw[e];exact hp k hk
   rw[hf]
   exact⟨hk,e.symm,v,by rw[Cp];simp[AJ],h.symm⟩
  ·rw[if_neg e]at h
   obtain⟨h1,h2,o',h3,h4⟩:=TR hp (fun x hx=>hs x (List.mem_cons_of_mem _ hx)) h
   refine⟨h1,h2,o',?_,h4⟩
   rw[Cp]
   simp only[AJ]
   rw[if_neg]
   ·exact h3
   ·rintro rfl
    exact e h2.symm
theorem Y5 {q:Id×AB→Bool}{l:List (Id×AB)}(h:BP q l=true) {i:Id}{o:AB}(hi:AK l i=some o):q (i,o)=true:=by
 induction l with
 | nil=>simp[AK]at hi
 | cons x l ih=>
  obtain⟨k,v⟩:=x
  rw[Az]at h
  rw[Cp]at hi
  simp only[AJ]at hi
  split at hi
  ·rename_i e
   cases hi
   rw[e]
   exact h _ (List.mem_cons_self ..)
  ·exact ih (Az.2 fun x hx=>h x (by simp[hx])) hi
theorem Uv {ks:List Nat}{is:List Id}{n:Nat}{l:List (Nat×Nat)}{σ:St}{K:St→Prop}(h:Y3 ks is n l σ K):∃σ',A8 σ σ'∧K σ':=by
 unfold Y3 at h
 split at h
 ·exact h.elim
 ·rename_i hp hhp
  obtain⟨h1,h⟩:=AA.1 h
  obtain⟨h2,h⟩:=AA.1 h
  let N:=max σ.next n
  let f:Id→Id:=fun i=>if J3 n i=true then N6 l i else .loc N
  have hpf:∀i,KF l n i=true→f (Eb l i)=i:=by
   intro i hi
   unfold KF at hi
   split at hi
   ·rename_i hb
    show (if J3 n (Eb l i)=true then _ else _)=i
    rw[if_pos hi]
    exact Id.beq_iff.1 hb
   ·cases hi
  have hk2:∀x∈hp,KF l n x.1=true∧KC (KF l n) x.2=true:=by
   intro x hx
   have:=Az.1 h2 x hx
   split at this
   ·rename_i hb;exact⟨hb,this⟩
   ·cases this
  have hnew:∀i o,AK (PF l hp) i=some o→KF l n (f i)=true∧Eb l (f i)=i∧∃o',AK hp (f i)=some o'∧o=o'.Ar (Eb l):=fun i o hi=>TR hpf (fun x hx=>(hk2 x hx).1) hi
  refine⟨_,Y2 f (fun j=>by show (if J3 n (.ext j)=true then _ else _)=_;simp[J3,N6]) (fun m hm=>⟨N,Nat.le_max_left _ _,?_⟩) (fun t=>?_) (fun i o hi=>?_) (fun i j o o' hi hj e=>?_) (fun m hm=>?_),h⟩
  ·have hm:n≤m:=hm
   have:J3 n (.loc m)=false:=by
    cases hb:J3 n (.loc m)with
    | false=>rfl
    | true=>simp[J3]at hb;omega
   show (if J3 n (.loc m)=true then _ else _)=_
   rw[this];rfl
  ·rw[Y4]
   rcases Pm (l:=σ.slots) (ks:=ks) t with e | e
   ·rw[e];exact .inl rfl
   ·right
    rw[←e]
    exact (Q8 hpf (TF (p:=fD (KF l n)) rfl h1 t)).symm
  ·obtain⟨p1,p2,o',p3,rfl⟩:=hnew i o hi
   have hq:=Y5 (q:=fun x=>KC (KF l n) x.2) (Az.2 fun x hx=>(hk2 x hx).2) p3
   rw[KE hpf hq]
   exact (IX hhp _ _ p3).1
  ·obtain⟨_,p2,_⟩:=hnew i o hi
   obtain⟨_,q2,_⟩:=hnew j o' hj
   rw[←p2,←q2,e]
  ·cases hc:AK (PF l hp) (.loc m)with
   | none=>rfl
   | some o=>
    obtain⟨p1,p2,_⟩:=hnew _ o hc
    have hm:n≤m:=hm
    unfold KF at p1
    split at p1
    ·rw[p2]at p1
     simp[J3]at p1
     omega
    ·cases p1
end Go.AM
namespace Go.AM
open Go Go.RowKit
inductive Shape (ti:Types):TypeId→List D→Prop where
 | bool {t x} (b:Bool) (h:ti t=some x) (hd:x.desc= .bool):Shape ti t [.bool b]
 | int {t x k} (n:Int) (h:ti t=some x) (hd:x.desc= .int k) (hw:(Lit.int k n).wf=true):Shape ti t [.int k n]
 | str {t x} (s:ByteArray) (h:ti t=some x) (hd:x.desc= .string) (hs:s.size≤maxLen):Shape ti t [.str s]
 | slice {t x e y} (rows:List D) (h:ti t=some x) (hd:x.desc= .slice e) (he:ti e=some y) (hl:rows.length≤maxLen)
   (hf:∀r∈rows,r.fits (AU y.desc) y.size) (hr:∀r∈rows,Shape ti e r.cells):Shape ti t [.list (AU y.desc) y.size rows]
 | struct {t x fs} (ds:List D) (h:ti t=some x) (hd:x.desc= .struct fs) (hl:ds.length=x.size) (hg:∀c∈ds,c.isAgg=false)
   (hr:∀f∈fs.toList,∀y,ti f.type=some y→Shape ti f.type ((ds.drop f.offset).take y.size)):Shape ti t ds
def chain (ti:Types):Nat→List Field→Option Nat
 | off,[]=>some off
 | off,f::r=>if f.offset=off then match ti f.type with
   | some y=>chain ti (off+y.size) r
   | none=>none
  else none
theorem TS {ti:Types}:∀{fs:List Field}{off tot:Nat},chain ti off fs=some tot→off≤tot∧∀f∈fs,off≤f.offset∧∃y,ti f.type=some y
 | [],off,tot,h=>by simp[chain]at h;subst h;exact⟨Nat.le_refl _,by simp⟩
 | f::fs,off,tot,h=>by
  unfold chain at h
  split at h
  ·rename_i ho
   split at h
   ·rename_i y hy
    obtain⟨h1,h2⟩:=TS h
    refine⟨by omega,fun f' hf'=>?_⟩
    rcases List.mem_cons.1 hf' with rfl | hf'
    ·exact⟨by omega,y,hy⟩
    ·exact⟨by have:=(h2 f' hf').1;omega,(h2 f' hf').2⟩
   ·simp at h
  ·simp at h
def N7 (ti:Types) (T:List TypeId):Bool:=
 T.all fun t=>match ti t with
  | some x=>match x.desc with
   | .bool | .int _ | .string=>x.size==1
   | .slice e=>T.contains e&&(x.size==1)&&(match ti e with
    | some y=>decide (0<y.size)&&(AU y.desc || y.size==1)
    | none=>false)
   | .struct fs=>(chain ti 0 fs.toList==some x.size)&&fs.toList.all fun f=>T.contains f.type
   | _=>false
  | none=>false
theorem MB {Q:Nat→D→Prop}:∀n,(∀i,i<n→∃r,Q i r)→∃l:List D,l.length=n∧∀i r,l[i]?=some r→Q i r
 | 0,_=>⟨[],rfl,by simp⟩
 | n+1,h=>by
  obtain⟨l,h1,h2⟩:=MB n (fun i hi=>h i (by omega))
  obtain⟨r,hr⟩:=h n (by omega)
  refine⟨l++[r],by simp[h1],fun i r' hi=>?_⟩
  by_cases hl:i<l.length
  ·rw[List.getElem?_append_left hl]at hi;exact h2 i r' hi
  ·rw[List.getElem?_append_right (by omega)]at hi
   have hin:i=n:=by
    by_cases he:i=n
    ·exact he
    ·rw[List.getElem?_eq_none (by simp;omega)]at hi;simp at hi
   subst hin
   rw[h1]at hi
   simp at hi
   subst hi
   exact hr
def TT (w:World) (Z:Ad) (ds:List D) (cs:List Value):Prop:=
 ds.length=cs.length∧(∀c∈ds,c.isAgg=false)∧∀(j:Nat) c u,ds[j]?=some c→cs[j]?=some u→AX w Z c u
theorem Gi {w:World}{Z:Ad}{c:D}{u:Value}(hc:c.isAgg=false) (h:AX w Z c u):TT w Z [c] [u]:=
 ⟨rfl,by simpa using hc,fun j c' u' h1 h2=>by
  match j with
  | 0=>simp at h1 h2;subst h1;subst h2;exact h
  | j+1=>simp at h1⟩
theorem MC {w:World}{Z:Ad}{ti:Types}{cs:List Value}:∀(fs:List Field) (off tot:Nat),chain ti off fs=some tot→tot≤cs.length→
  (∀f∈fs,∀y,ti f.type=some y→∃ds,Shape ti f.type ds∧TT w Z ds ((cs.drop f.offset).take y.size))→
  ∃ds,TT w Z ds ((cs.drop off).take (tot - off))∧∀f∈fs,∀y,ti f.type=some y→Shape ti f.type ((ds.drop (f.offset - off)).take y.size)
 | [],off,tot,h,_,_=>by
  simp[chain]at h
  subst h
  exact⟨[],⟨by simp,by simp,by simp⟩,by simp⟩
 | f::fs,off,tot,h,hl,hx=>by
  unfold chain at h
  split at h
  ·rename_i ho
   split at h
   ·rename_i y hy
    obtain⟨hle,hoff⟩:=TS h
    obtain⟨ds',⟨a1,a2,a3⟩,hs'⟩:=MC fs _ tot h hl (fun f' hf'=>hx f' (List.mem_cons_of_mem _ hf'))
    obtain⟨p,hp,b1,b2,b3⟩:=hx f (by simp) y hy
    rw[ho]at b1 b3
    have hpl:p.length=y.size:=by rw[b1];simp;omega
    refine⟨p++ds',⟨?_,?_,?_⟩,fun f' hf' y' hy'=>?_⟩
    ·simp at a1 ⊢;omega
    ·intro c hc
     rcases List.mem_append.1 hc with hc | hc
     ·exact b2 c hc
     ·exact a2 c hc
    ·intro j c u hc hu
     rw[List.getElem?_take]at hu
     split at hu
     ·rename_i hj
      rw[List.getElem?_drop]at hu
      by_cases hjp:j<p.length
      ·rw[List.getElem?_append_left hjp]at hc
       refine b3 j c u hc ?_
       rw[List.getElem?_take,if_pos (by omega),List.getElem?_drop];exact hu
      ·rw[List.getElem?_append_right (by omega)]at hc
       refine a3 (j - p.length) c u hc ?_
       rw[List.getElem?_take,if_pos (by omega),List.getElem?_drop,←hu]
       congr 1
       omega
     ·simp at hu
    ·rcases List.mem_cons.1 hf' with rfl | hf'
     ·rw[hy]at hy'
      obtain rfl:y=y':=by simpa using hy'
      rw[ho,Nat.sub_self,List.drop_zero,List.take_append_of_le_length (by omega),List.take_of_length_le (by omega)]
      exact hp
     ·have h1:=(hoff f' hf').1
      have:=hs' f' hf' y' hy'
      rw[List.drop_append,List.drop_of_length_le (by omega),List.nil_append]
      rw[show f'.offset - off - p.length=f'.offset - (off+y.size)from by omega]
      exact this
   ·simp at h
  ·simp at h
theorem JP {P:Program}{ti:Types}(hti:Ao P ti) {t:TypeId}{x:TI}(h:ti t=some x):P.cellsOf t=x.size:=by
 obtain⟨_,i,h1,h2,_⟩:=hti t x h
 simp[Program.cellsOf,h1,h2]
theorem conv {H:Type}{enc:TypeId×Value→H}{P:Program}{ti:Types}(hti:Ao P ti) {T:List TypeId}(hT:N7 ti T=true) {w:World}{base:Nat}{spare:Nat→Bool}{held:Bool}{Z:Ad}(hZ:∀b o,¬Z b o):
  ∀(fuel:Nat) (t:TypeId) (cs:List Value) (d:DataW H) (ps:List MemPlace),t∈T→DataW.trod enc P w base spare held fuel t cs=some (d,ps)→∃ds,Shape ti t ds∧TT w Z ds cs
 | 0,t,cs,d,ps,_,h=>by simp[DataW.trod]at h
 | fuel+1,t,cs,d,ps,ht,h=>by
  have hp:=hT
  unfold N7 at hp
  have hp:=List.all_eq_true.1 hp t ht
  split at hp
  ·rename_i x hx
   have hu:=(hti t x hx).1
   have hcs:=JP hti hx
   split at hp
   ·rename_i hd
    rw[hd]at hu
    unfold DataW.trod at h
    simp only[hu]at h
    split at h<;>simp_all
    exact⟨_,.bool _ hx hd,Gi rfl (.bool _)⟩
   ·rename_i k hd
    rw[hd]at hu
    unfold DataW.trod at h
    simp only[hu]at h
    split at h<;>simp_all
    obtain⟨⟨rfl,hw⟩,_⟩:=h
    exact⟨_,.int _ hx hd hw,Gi rfl (.int _ _)⟩
   ·rename_i hd
    rw[hd]at hu
    unfold DataW.trod at h
    simp only[hu]at h
    split at h<;>simp_all
    exact⟨_,.str _ hx hd h.1,Gi rfl (.str _)⟩
   ·rename_i e hd
    rw[hd]at hu
    simp only[Bool.and_eq_true]at hp
    obtain⟨⟨he,_⟩,hp⟩:=hp
    have he:e∈T:=by simpa using he
    split at hp
    ·rename_i y hy
     simp only[Bool.and_eq_true,decide_eq_true_eq]at hp
     have hey:=JP hti hy
     unfold DataW.trod at h
     simp only[hu]at h
     split at h<;>rename_i hq<;>try cases hq
     ·exact⟨_,.slice [] hx hd hy (by simp) (by simp) (by simp),Gi rfl (FD _ _)⟩
     ·rename_i a len cap
      rw[hey]at h
      split at h
      ·rename_i hg
       obtain⟨elems,he1,_⟩:=Option.bind_eq_some_iff.1 h
       have hel:elems.length=len:=by simpa using mapM_some_length he1
       have each:∀i,i<len→∃cs' ds,(w.cells? base (a.add (i*y.size)) y.size)=some cs'∧Shape ti e ds∧TT w Z ds cs':=by
        intro i hi
        have h1:=mapM_some_get he1 i i (by simp[hi])
        rw[List.getElem?_eq_getElem (by omega:i<elems.length)]at h1
        obtain⟨cs',h2,h3⟩:=Option.bind_eq_some_iff.1 h1
        obtain⟨ds,h4,h5⟩:=conv hti hT hZ fuel e cs' _ _ he h3
        exact⟨cs',ds,h2,h4,h5⟩
       have hspot:0<len→a.spot=none:=by
        intro hl
        obtain⟨cs',_,h2,_⟩:=each 0 hl
        obtain⟨_,h3,h4⟩:=World.cells?_some h2
        have h5:=h4 0 hp.1
        rw[List.getElem?_eq_getElem (by omega)]at h5
        simp only[Nat.zero_mul,Addr.add,if_true]at h5
        unfold World.cell? at h5
        split at h5
        ·split at h5
         ·cases h5
         ·rename_i hs;simpa using hs
        ·cases h5
       obtain⟨rows,hrl,hrows⟩:=MB (Q:=fun i r=>r.fits (AU y.desc) y.size∧Shape ti e r.cells∧∀(j:Nat) c,r.cells[j]?=some c→
         ∃u,w.cell? ⟨a.block,a.off+(i*y.size+j),none⟩=some u∧AX w Z c u) len (fun i hi=>by
        obtain⟨cs',ds,h2,h3,h4⟩:=each i hi
        obtain⟨_,h5,h6⟩:=World.cells?_some h2
        have hdl:ds.length=y.size:=h4.1.trans h5
        obtain⟨r,hr1,hr2⟩:∃r:D,r.cells=ds∧r.isAgg=AU y.desc:=by
         cases hrw:AU y.desc with
         | true=>exact⟨.agg ds,rfl,rfl⟩
         | false=>
          rw[hrw]at hp
          have:y.size=1:=by simpa using hp.2
          obtain⟨c,rfl⟩:=List.length_eq_one_iff.1 (hdl.trans this)
          have hc:=h4.2.1 c (by simp)
          exact⟨c,by cases c<;>first | rfl | simp[D.isAgg]at hc,hc⟩
        refine⟨r,⟨hr2,by rw[hr1,hdl],by rw[hr1];exact h4.2.1⟩,by rw[hr1];exact h3,fun j c hc=>?_⟩
        rw[hr1]at hc
        have hj:j<y.size:=by rw[←hdl];exact (List.getElem?_eq_some_iff.1 hc).1
        have h7:=h6 j hj
        have ha:(a.add (i*y.size)).add j=⟨a.block,a.off+(i*y.size+j),none⟩:=by
         have:=hspot (by omega)
         obtain⟨ab,ao,asp⟩:=a
         simp only at this
         subst this
         unfold Addr.add
         split<;>split<;>simp_all<;>omega
        rw[ha,List.getElem?_eq_getElem (by omega:j<cs'.length)]at h7
        exact⟨_,h7,h4.2.2 j c _ hc (List.getElem?_eq_getElem (by omega:j<cs'.length))⟩)
       refine⟨_,.slice rows hx hd hy (by omega) (fun r hr=>?_) (fun r hr=>?_),Gi rfl ?_⟩
       ·obtain⟨i,hi⟩:=List.mem_iff_getElem?.1 hr
        exact (hrows i r hi).1
       ·obtain⟨i,hi⟩:=List.mem_iff_getElem?.1 hr
        exact (hrows i r hi).2.1
       ·rw[←hrl]
        refine .list _ _ rows (some a) cap a.block a.off (fun i j=>(w.cell? ⟨a.block,a.off+(i*y.size+j),none⟩).getD undef) (by omega) hg.2.2 (fun r hr=>?_) (fun hne=>?_) (fun i r j c hr hc=>?_) (fun i r j c hr hc=>?_)
        ·obtain⟨i,hi⟩:=List.mem_iff_getElem?.1 hr
         exact (hrows i r hi).1
        ·have:=hspot (by rw[←hrl];exact List.length_pos_iff.2 hne)
         obtain⟨ab,ao,asp⟩:=a
         simp only at this
         rw[this]
        ·obtain⟨u,hu1,_⟩:=(hrows i r hr).2.2 j c hc
         rw[hu1]
         exact⟨rfl,hZ _ _⟩
        ·obtain⟨u,hu1,hu2⟩:=(hrows i r hr).2.2 j c hc
         rw[hu1]
         exact hu2
      ·cases h
     ·cases h
    ·simp at hp
   ·rename_i fs hd
    rw[hd]at hu
    simp only[Bool.and_eq_true,beq_iff_eq]at hp
    obtain⟨hch,hfs⟩:=hp
    unfold DataW.trod at h
    simp only[hu]at h
    split at h<;>rename_i hq<;>try cases hq
    ·obtain⟨xs,hxs,_⟩:=Option.map_eq_some_iff.1 h
     obtain⟨ds,h1,h2⟩:=MC (w:=w) (Z:=Z) (cs:=cs) fs.toList 0 x.size hch (by omega) (fun f hf y hy=>by
      obtain⟨i,hi⟩:=List.mem_iff_getElem?.1 hf
      have h3:=mapM_some_get hxs i f hi
      have hil:i<xs.length:=by rw[mapM_some_length hxs];exact (List.getElem?_eq_some_iff.1 hi).1
      rw[List.getElem?_eq_getElem hil,JP hti hy]at h3
      have hfT:f.type∈T:=by simpa using List.all_eq_true.1 hfs f hf
      exact conv hti hT hZ fuel f.type _ _ _ hfT h3)
     rw[List.drop_zero,Nat.sub_zero,List.take_of_length_le (by omega)]at h1
     exact⟨ds,.struct ds hx hd (by rw[h1.1];omega) h1.2.1 (fun f hf y hy=>by simpa using h2 f hf y hy),h1⟩
    ·cases h
   ·simp at hp
  ·simp at hp
end Go.AM
namespace Go.AM
open Go
structure cT (L L':List D) (r:Nat→Bool) (R:Bool):Prop where
 len:L.length≠L'.length→R=false
 bad:∀i,i<L.length→i<L'.length→r i=false→R=false
 good:L.length=L'.length→(∀i,i<L.length→r i=true)→R=true
theorem cT.of (L L':List D) (r:Nat→Bool):cT L L' r (decide (L.length=L'.length∧∀i,i<L.length→r i=true)) where
 len h:=by simp[h]
 bad i h1 h2 h:=by
  rw[decide_eq_false_iff_not]
  rintro⟨_,h3⟩
  rw[h3 i h1]at h
  cases h
 good h1 h2:=by rw[decide_eq_true_iff];exact⟨h1,h2⟩
section
variable {ti:Types}{t e:TypeId}{x y:TI}{ds:List D}{fs:Array Field}{k:IntKind}
theorem Shape.eI (h:Shape ti t ds) (hx:ti t=some x) (hd:x.desc= .int k):∃n,ds=[.int k n]∧(Lit.int k n).wf=true:=by
 cases h<;>simp_all
theorem Shape.Vk (h:Shape ti t ds) (hx:ti t=some x) (hd:x.desc= .struct fs):
  ds.length=x.size∧(∀c∈ds,c.isAgg=false)∧∀f∈fs.toList,∀y,ti f.type=some y→Shape ti f.type ((ds.drop f.offset).take y.size):=by
 cases h with
 | struct ds h1 h2 h3 h4 h5=>
  rw[hx]at h1
  obtain rfl:=Option.some.inj h1
  rw[hd]at h2
  obtain rfl:=TypeDesc.struct.inj h2
  exact⟨h3,h4,h5⟩
 | _=>simp_all
end
open Classical in
theorem cT.same (L L':List D):cT L L' (fun i=>decide (L[i]?=L'[i]?)) (decide (L=L')) where
 len h:=by rw[decide_eq_false_iff_not];rintro rfl;exact h rfl
 bad i h1 h2 h:=by
  rw[decide_eq_false_iff_not]at h ⊢
  rintro rfl;exact h rfl
 good h1 h2:=by
  rw[decide_eq_true_iff]
  refine List.ext_getElem? fun i=>?_
  by_cases hi:i<L.length
  ·exact of_decide_eq_true (h2 i hi)
  ·rw[List.getElem?_eq_none (by omega),List.getElem?_eq_none (by omega)]
def fG (ti:Types) (t:TypeId):TI:=
 match ti t with
 | some x=>x
 | none=>⟨.bool,0,0,.bool false,[]⟩
theorem Cj {a b:ByteArray}:(a.toList==b.toList)=true↔a=b:=by
 constructor
 ·intro h
  have h:=beq_iff_eq.1 h
  rw[ByteArray.toList_eq,ByteArray.toList_eq]at h
  exact ByteArray.ext (Array.ext' h)
 ·rintro rfl;simp
theorem Y6 {a b:ByteArray}:(a.toList==b.toList)=false↔a≠b:=by
 rw[←Bool.not_eq_true,Cj]
end Go.AM
namespace Go.AM
open Go
section
variable {α γ:Type}
def DL (z:Int) (k:Int→Option γ):Option γ:=k z
theorem BO {z:Int}{k:Int→Option γ}{r:γ}(h:DL z k=some r):∃y,z=y∧k y=some r:=⟨z,rfl,h⟩
def Q9 (L:List D) (k:Int→Option γ):Option γ:=k L.length
theorem FU (M:AY) {L:List D}{k:Int→Option γ}{r:γ}(h:Q9 L k=some r):∃y,M.lenI L=y∧k y=some r:=⟨L.length,M.lenI_eq L,h⟩
def oT (s:ByteArray) (k:Int→Option γ):Option γ:=k s.size
theorem cU (M:AY) {s:ByteArray}{k:Int→Option γ}{r:γ}(h:oT s k=some r):∃y,M.szI s=y∧k y=some r:=⟨s.size,M.szI_eq s,h⟩
def MR (L:List D) (i:Int) (k:D→Option γ):Option γ:=if 0≤i then (match L[i.toNat]? with | some x=>k x | none=>none)else none
theorem Hl {L:List D}{i:Int}{k:D→Option γ}{r:γ}(h:MR L i k=some r):∃x,(0≤i∧L[i.toNat]?=some x)∧k x=some r:=by
 unfold MR at h
 split at h
 ·rename_i h0
  split at h
  ·rename_i x hx
   exact⟨x,⟨h0,hx⟩,h⟩
  ·cases h
 ·cases h
theorem XG {L:List D}{i:Int}{k:D→Option γ}{x:D}(h0:0≤i) (hx:L[i.toNat]?=some x):MR L i k=k x:=by
 unfold MR
 rw[if_pos h0,hx]
def Ec (p:Prop) [Decidable p] (x:Option γ):Option γ:=if p then x else none
theorem Bm {p:Prop} [Decidable p] {x:Option γ}{r:γ}(h:Ec p x=some r):p∧x=some r:=by
 unfold Ec at h
 split at h
 ·rename_i hp
  exact⟨hp,h⟩
 ·cases h
theorem BF {p:Prop} [Decidable p] {x y r:Option γ}(hp:p) (h:(if p then x else y)=r):x=r:=by rwa [if_pos hp]at h
theorem BG {p:Prop} [Decidable p] {x y r:Option γ}(hp:¬p) (h:(if p then x else y)=r):y=r:=by rwa [if_neg hp]at h
def Ed (b:Nat) (L M:List D) (k:List D→Option γ):Option γ:=if L.length+M.length≤maxLen∧(L.length+M.length)*b≤140737488355328 then k (L++M)else none
theorem DM {b:Nat}{L M:List D}{k:List D→Option γ}{r:γ}(h:Ed b L M k=some r):∃out,(L.length+M.length≤maxLen∧(L.length+M.length)*b≤140737488355328)∧L++M=out∧k out=some r:=by
 unfold Ed at h
 split at h
 ·rename_i hb
  exact⟨_,hb,rfl,h⟩
 ·cases h
def RA (L:List D) (l u:Int) (k:List D→Option γ):Option γ:=if 0≤l∧l≤u∧u≤(L.length:Int)then k ((L.take u.toNat).drop l.toNat)else none
theorem N8 (M:AY) {L:List D}{l u:Int}{k:List D→Option γ}{r:γ}(h:RA L l u k=some r):∃out,(0≤l∧l≤u∧u≤M.lenI L)∧(L.take u.toNat).drop l.toNat=out∧k out=some r:=by
 unfold RA at h
 split at h
 ·rename_i hb
  exact⟨_,by rw[M.lenI_eq];exact hb,rfl,h⟩
 ·cases h
def Y7 (L:List D) (l:Int) (k:List D→Option γ):Option γ:=if 0≤l∧l≤(L.length:Int)then k (L.drop l.toNat)else none
theorem XH (M:AY) {L:List D}{l:Int}{k:List D→Option γ}{r:γ}(h:Y7 L l k=some r):∃out,(0≤l∧l≤M.lenI L∧M.lenI L≤M.lenI L)∧(L.take (M.lenI L).toNat).drop l.toNat=out∧k out=some r:=by
 unfold Y7 at h
 split at h
 ·rename_i hb
  exact⟨_,by rw[M.lenI_eq];exact⟨hb.1,hb.2,Int.le_refl _⟩,rfl,by rw[M.lenI_eq];simpa using h⟩
 ·cases h
def Mh (L:List D) (l u v:Int) (k:List D→Option γ):Option γ:=if 0≤l∧l≤u∧u≤(L.length:Int)∧v=u then k ((L.take u.toNat).drop l.toNat)else none
theorem MD (M:AY) {L:List D}{l u v:Int}{k:List D→Option γ}{r:γ}(h:Mh L l u v k=some r):∃out,(0≤l∧l≤u∧u≤M.lenI L∧v=u)∧(L.take u.toNat).drop l.toNat=out∧k out=some r:=by
 unfold Mh at h
 split at h
 ·rename_i hb
  exact⟨_,by rw[M.lenI_eq];exact hb,rfl,h⟩
 ·cases h
open Classical in
noncomputable def RB (L:List D) (A B:Option γ):Option γ:=if L=[]then (if A=B then B else none)else B
theorem Hm {L:List D}{A B:Option γ}{r:γ}(h:RB L A B=some r):B=some r∧(L=[]→A=some r):=by
 unfold RB at h
 split at h
 ·split at h
  ·rename_i e;exact⟨h,fun _=>e▸h⟩
  ·cases h
 ·rename_i hn;exact⟨h,fun e=>absurd e hn⟩
theorem Mi {L:List D}{A B:Option γ}(h:L=[]→A=B):RB L A B=B:=by
 unfold RB
 split
 ·rename_i e;rw[if_pos (h e)]
 ·rfl
theorem KG {L:List D}{K0 K1:Prop}(h0:K0) (h1:L=[]→K1):(L≠[]→K0)∧(L=[]→K1∧K0):=⟨fun _=>h0,fun e=>⟨h1 e,h0⟩⟩
def Y8 (b:Nat) (z:D) (n m:Int) (k:List D→Option γ):Option γ:=if n=m∧0≤n∧n≤9223372036854775807∧(b:Int)*n≤281474976710656 then k (List.replicate n.toNat z)else none
theorem XI {b:Nat}{z:D}{n m:Int}{k:List D→Option γ}{r:γ}(h:Y8 b z n m k=some r):∃out,(n=m∧0≤n∧n≤9223372036854775807∧(b:Int)*n≤281474976710656)∧List.replicate n.toNat z=out∧k out=some r:=by
 unfold Y8 at h
 split at h
 ·rename_i hb
  exact⟨_,hb,rfl,h⟩
 ·cases h
def nR (L:List D) (k:List D→Option γ):Option γ:=k L
def TU (L:List D):Bool:=L.all fun r=>r.cells.all fun c=>!EU c
theorem LL {L:List D}:TU L=true↔NQ L:=by
 simp[TU,NQ]
def iQ (L:List D) (i:Nat) (x:D) (k:List D→Option γ):Option γ:=k (L.set i x)
theorem TV {L:List D}{i:Nat}{x:D}{k:List D→Option γ}{r:γ}(h:iQ L i x k=some r):∃out,L.set i x=out∧k out=some r:=⟨_,rfl,h⟩
def XJ (L:List D) (i:Nat) (k:D→Option γ):Option γ:=match L[i]? with | some x=>k x | none=>none
theorem KH {L:List D}{i:Nat}{k:D→Option γ}{r:γ}(h:XJ L i k=some r):∃x,L[i]?=some x∧k x=some r:=by
 unfold XJ at h
 split at h
 ·rename_i x hx
  exact⟨x,hx,h⟩
 ·cases h
def cV (s:ByteArray) (l u:Int) (k:ByteArray→Option γ):Option γ:=if 0≤l∧l≤u∧u≤(s.size:Int)then k (s.extract l.toNat u.toNat)else none
theorem TW (M:AY) {s:ByteArray}{l u:Int}{k:ByteArray→Option γ}{r:γ}(h:cV s l u k=some r):∃out,(0≤l∧l≤u∧u≤M.szI s)∧s.extract l.toNat u.toNat=out∧k out=some r:=by
 unfold cV at h
 split at h
 ·rename_i hb
  exact⟨_,by rw[M.szI_eq];exact hb,rfl,h⟩
 ·cases h
def Uw (s:ByteArray) (l:Int) (k:ByteArray→Option γ):Option γ:=if 0≤l∧l≤(s.size:Int)then k (s.extract l.toNat s.size)else none
theorem Ux (M:AY) {s:ByteArray}{l:Int}{k:ByteArray→Option γ}{r:γ}(h:Uw s l k=some r):∃out,(0≤l∧l≤M.szI s∧M.szI s≤M.szI s)∧s.extract l.toNat (M.szI s).toNat=out∧k out=some r:=by
 unfold Uw at h
 split at h
 ·rename_i hb
  exact⟨_,by rw[M.szI_eq];exact⟨hb.1,hb.2,Int.le_refl _⟩,rfl,by rw[M.szI_eq];simpa using h⟩
 ·cases h
def mZ (s:ByteArray) (i:Int) (k:Int→Option γ):Option γ:=if 0≤i then (match (s[i.toNat]?).map (fun u=>(u.toNat:Int))with | some z=>k z | none=>none)else none
theorem V2 {s:ByteArray}{i:Int}{k:Int→Option γ}{r:γ}(h:mZ s i k=some r):∃z,(0≤i∧(s[i.toNat]?).map (fun u=>(u.toNat:Int))=some z)∧k z=some r:=by
 unfold mZ at h
 split at h
 ·rename_i h0
  split at h
  ·rename_i z hz
   exact⟨z,⟨h0,hz⟩,h⟩
  ·cases h
 ·cases h
def Ee (s t:ByteArray) (k:ByteArray→Option γ):Option γ:=if ((s.size+t.size:Nat):Int)≤IntKind.i64.max then k (s++t)else none
theorem Ck {s t:ByteArray}{k:ByteArray→Option γ}{r:γ}(h:Ee s t k=some r):∃out,s++t=out∧((s.size+t.size:Nat):Int)≤IntKind.i64.max∧k out=some r:=by
 unfold Ee at h
 split at h
 ·rename_i hb
  exact⟨_,rfl,hb,h⟩
 ·cases h
def bO0 (x:Option Unit) (k:Option γ):Option γ:=match x with | some _=>k | none=>none
theorem cW {x:Option Unit}{k:Option γ}{r:γ}(h:bO0 x k=some r):x=some ()∧k=some r:=by
 cases x with
 | none=>cases h
 | some u=>exact⟨rfl,h⟩
def bO1 {A1:Type}(x:Option (A1)) (k:A1→Option γ):Option γ:=match x with | some p=>k p | none=>none
theorem CJ {A1:Type}{x:Option (A1)}{k:A1→Option γ}{r:γ}(h:bO1 x k=some r):∃a1,x=some a1∧k a1=some r:=by
 cases x with
 | none=>cases h
 | some p=>exact⟨_,rfl,h⟩
end
end Go.AM
namespace Go.AM
open Go
def sI (n:Nat) (z:Int):Nat×AV:=(n,.v (.d (.int .i64 z)))
def sU (n:Nat) (z:Int):Nat×AV:=(n,.v (.d (.int .u8 z)))
def sB (n:Nat) (b:Bool):Nat×AV:=(n,.v (.d (.bool b)))
def sT (n s:Nat) (l:List D):Nat×AV:=(n,.v (.d (.list true s l)))
def sF (n s:Nat) (l:List D):Nat×AV:=(n,.v (.d (.list false s l)))
def sL (n i:Nat):Nat×AV:=(n,.v (.c (.ptr (.loc i) 0)))
def sE (n i:Nat):Nat×AV:=(n,.v (.c (.ptr (.ext i) 0)))
def sS (n:Nat) (b:ByteArray):Nat×AV:=(n,.v (.d (.str b)))
abbrev LD:=List D
abbrev BA:=ByteArray
theorem pS {γ:Type}{x y r:Option γ}(h:(if true=true then x else y)=r):x=r:=h
theorem pT {γ:Type}{x y r:Option γ}(h:(if false=true then x else y)=r):y=r:=h
end Go.AM
namespace Go.AM
open Go Go.RowKit
theorem Bf.SU {P:Program}{I:Inv}{f:FuncId}{xs:List D}{res:V1}(hf:∃fn c,P.funcs[f]?=some fn∧fn.body=some c∧(fn.name== "runtime.NumGoroutine")=false)
  (h:∀(w:World) (Z:Ad) (vals:Array Value),I.rel w→vals.size=xs.length→(∀(j:Nat) x v,xs[j]?=some x→vals[j]?=some v→AX w Z x v)→
   Calls P f vals w fun e w'=>∃v,e= .returned v∧El (fun _=>False) w w'∧∀Z' g' h',Ag w' Z' g' h' res v):Bf P I f (xs.map V1.d) [] (.v res) [] []:=by
 refine Bf.mk' hf fun w X g vals hX hI RH hg hsz hargs=>?_
 have none:∀{i o},Ae [] i=some o→False:=by
  intro i o h
  cases i<;>simp[Ae]at h
 have none2:∀{i o},Bi [] [] i=some o→False:=by
  intro i o h
  cases i<;>simp[Bi]at h
 refine (h w (Al (zone g (Ae [])) X) vals hI.1 (by simpa using hsz) (fun j x v hx hv=>hargs j (.d x) v (by simp[hx]) hv)).mono ?_
 rintro e w' ⟨v,rfl,A,hr⟩
 refine⟨v,g,rfl,⟨⟨fun i o hi=>(none2 hi).elim,fun i j oi oj b hi=>(none2 hi).elim,fun i oi b o hi=>(none2 hi).elim⟩,hr _ _ _,?_,fun j=>.refl _,fun i ob b o hi=>(none2 hi).elim,fun k _=>hg k⟩⟩
 exact⟨A.os,A.tape,A.output,A.size,fun b hb _=>A.block b hb id,fun b o u hu _=>A.cell hu id⟩
def N9:List D→Option (List ByteArray)
 | []=>some []
 | .str s::r=>match N9 r with
  | some l=>some (s::l)
  | none=>none
 | _::_=>none
theorem Pv:∀{rows:List D}{xs:List ByteArray},N9 rows=some xs→rows=xs.map D.str
 | [],xs,h=>by cases h;rfl
 | x::r,xs,h=>by
  cases x<;>simp only[N9]at h<;>try (exact absurd h (by simp))
  split at h
  ·rename_i l hl
   cases h
   rw[Pv hl];rfl
  ·cases h
theorem TX:∀(xs:List ByteArray),N9 (xs.map D.str)=some xs
 | []=>rfl
 | x::xs=>by simp[N9,TX xs]
theorem Hn {w w':World}(h:Below w.heap.size w w'):El (fun _=>False) w w':=⟨h.os,h.tape,h.output,h.size,fun b hb _=>h.block b hb⟩
end Go.AM
namespace Go.AM
open Go Go.RowKit
section
variable {α β γ:Type}
end
section
variable {γ:Type}
def Y9 (b:Bool) (k:Bool→Option γ):Option γ:=k b
def TZ (L:List D) (k:ByteArray→Option γ):Option γ:=
 match K3 L with
 | some ns=>k (JD ns)
 | none=>none
theorem Ho {L:List D}{k:ByteArray→Option γ}{r:γ}(h:TZ L k=some r):∃ns s,K3 L=some ns∧JD ns=s∧k s=some r:=by
 unfold TZ at h
 split at h
 ·rename_i ns hn
  exact⟨ns,_,hn,rfl,h⟩
 ·cases h
def findF (e:Bool) (key:D) (rows:List D) (k1:D→Option γ) (k0:Option γ):Option γ:=
 match NW e key rows with
 | some (some y)=>k1 y
 | some none=>k0
 | none=>none
theorem XK {e:Bool}{key:D}{rows:List D}{k1:D→Option γ}{k0:Option γ}{r:γ}(h:findF e key rows k1 k0=some r):(∃y,NW e key rows=some (some y)∧k1 y=some r)∨(NW e key rows=some none∧k0=some r):=by
 unfold findF at h
 split at h
 ·rename_i y hy
  exact .inl ⟨y,hy,h⟩
 ·rename_i hy
  exact .inr ⟨hy,h⟩
 ·cases h
def iR (key:D) (ws rows:List D) (k:List D→Option γ):Option γ:=
 match Wr key ws rows with
 | some r=>k r
 | none=>none
theorem ZA {key:D}{ws rows:List D}{k:List D→Option γ}{r:γ}(h:iR key ws rows k=some r):∃out,Wr key ws rows=some out∧k out=some r:=by
 unfold iR at h
 split at h
 ·rename_i out ho
  exact⟨out,ho,h⟩
 ·cases h
end
theorem Ap {M:AY}{ea eb:St→(B5→St→Prop)→Prop}{σ:St}{K:B5→St→Prop}(h:ea σ fun e σ'=>match e with
  | .normal=>eb σ' K
  | .exit id=>K (.exit id) σ'
  | .ret=>K .ret σ'):M.lock fun _=>cL ea eb σ K:=(M.lock_iff _).2 (.inl h)
theorem Ax {M:AY}{ea eb:St→(B5→St→Prop)→Prop}{σ:St}{K:B5→St→Prop}{T:Type}(S:T→St) (I:T→Prop)
  (ha:ea σ fun e σ'=>match e with
   | .normal=>∃σ'',A8 σ' σ''∧∃t,I t∧σ''=S t
   | .exit id=>K (.exit id) σ'
   | .ret=>K .ret σ') (hb:∀t,I t→eb (S t) K):M.lock fun _=>cL ea eb σ K:=by
 refine (M.lock_iff _).2 (.inr ⟨fun σ=>∃t,I t∧σ=S t,ha,?_⟩)
 rintro σ2 ⟨t,hi,rfl⟩
 exact hb t hi
theorem AO {T:Type}{I:T→Prop}{S:T→St}{σ2:St}(t':T) (ks:List Nat) (is:List Id) (nx:Nat) (hI:I t') (hk:Fj ks is nx σ2 (·=S t')):
  ∃σ'',A8 σ2 σ''∧∃t,I t∧σ''=S t:=by
 obtain⟨σ',hw,e⟩:=Gd hk
 exact⟨σ',hw,t',hI,e⟩
section
variable {M:AY}{P:Program}{I:Inv}
end
end Go.AM
namespace Go.AM
open Go
def oU (d:Nat) (b:Bool) (l:List (Nat×AV)):List Nat→List (Nat×AV)
 | []=>[]
 | k::r=>(match Nat.beq k d with
  | true=>(k,.v (.d (.bool b)))
  | false=>(k,AH l k))::oU d b l r
def nS (h:List (Id×AB)):List Id→List (Id×AB)
 | []=>[]
 | i::r=>(match AK h i with
  | some o=>(i,o)::nS h r
  | none=>nS h r)
def nU (d:Nat) (ks:List Nat) (is:List Id) (nx:Nat) (σ:St) (b:Bool):St:=⟨oU d b σ.slots ks,nS σ.heap is,nx⟩
theorem kE {M:AY}{ea eb:St→(B5→St→Prop)→Prop}{σ:St}{K:B5→St→Prop}(d:Nat) (ks:List Nat) (is:List Id) (nx:Nat) (I:Nat→Bool→Prop)
  (ha:ea σ fun e σ'=>match e with
   | .normal=>∃σ'',A8 σ' σ''∧∃t:Nat×Bool,I t.1 t.2∧σ''=nU d ks is nx σ t.2
   | .exit id=>K (.exit id) σ'
   | .ret=>K .ret σ') (hb:∀t:Nat×Bool,I t.1 t.2→eb (nU d ks is nx σ t.2) K):M.lock fun _=>cL ea eb σ K:=
 Ax (fun t:Nat×Bool=>nU d ks is nx σ t.2) (fun t=>I t.1 t.2) ha hb
end Go.AM
namespace Go.AM
open Go Go.RowKit
theorem JQ {P:Program}{fn:Func}{tmps:Array Value}{R:Ending→World→Prop}:∀(ds:List Nat) (w:World) (fr:Frame) (cs:List Frame),fr.mode= .returning→fr.defers=ds.map DJ→fr.tmps=tmps→
  P.funcs[fr.fn]?=some fn→LeavesInM Fence.wide 0 P fn tmps R (ds.map DJ) .returning w→
  ∃v w' fr',R (.returned v) w'∧StepsIn (Machine.fenced P Fence.wide) P (lone fr cs w) (lone fr' cs w')∧fr'.kind=fr.kind∧fr'.fn=fr.fn∧fr'.going P w' (.returned v)
 | [],w,fr,cs,hm,hd,ht,hf,h=>by
  obtain⟨v,hr,hR⟩:=h
  exact⟨v,w,fr,hR,.refl _,rfl,rfl,hm,hd,fn,hf,ht▸hr⟩
 | r::ds,w,fr,cs,hm,hd,ht,hf,h=>by
  obtain⟨hrun,⟨r',w1,htar,htake,hrest⟩ | ⟨_,fv,cap,f,args,htar,_⟩⟩:=h
  ·have h1:=step_collected (P:=P) (cs:=cs) (w:=w) (hm▸hrun) hd htar htake
   have i1:(lone fr cs w).fenced P Fence.wide:=fenced_out (n:=0) trivial (room_wide _) (hm▸hrun) hd (fun g hg=>by rw[htar]at hg;simp[Target.leads]at hg)
   obtain⟨v,w',fr',hR,hs,hk,hfn,hg⟩:=JQ ds w1 {fr with defers:=[]++ds.map DJ} cs hm rfl ht hf hrest
   exact⟨v,w',fr',hR,StepsIn.trans (.one i1 h1) hs,hk,hfn,hg⟩
  ·cases htar
theorem OA {P:Program}{f:FuncId}{fn:Func}{c:Code}{args:Array Value}{u:FrameMode}{w:World}{R:Ending→World→Prop}
  (hf:P.funcs[f]?=some fn) (hb:fn.body=some c)
  (h:c.wpIn Fence.wide 0 P (fun e a' w'=>match e with
   | .normal=>(∃ds:List Nat,a'.defers=ds.map DJ)∧LeavesInM Fence.wide 0 P fn a'.tmps R a'.defers .returning w'
   | .ret=>(∃ds:List Nat,a'.defers=ds.map DJ)∧LeavesInM Fence.wide 0 P fn a'.tmps R a'.defers .returning w'
   | _=>False) {tmps:=args++Array.replicate (fn.ntmps - args.size) undef,defers:=[]} w):CallsDIn Fence.wide 0 P f args u w fun e u' w'=>u'=u∧R e w':=by
 refine⟨trivial,fun c₀ cs hu hr=>?_⟩
 let b:Frame:={(default:Frame)with fn:=f,kind:=.deferred,roundOf:=none}
 have henter:Frame.enter P f args .deferred=
   b.atR {tmps:=args++Array.replicate (fn.ntmps - args.size) undef,defers:=[]} [.code c]:=by
  simp[Frame.enter,Frame.atR,hf,hb,b]
 have hc:({c₀ with mode:=u}:Frame)=c₀:=by subst hu;rfl
 obtain⟨e,a',w',hq,harr⟩:=h b [] (c₀::cs) rfl trivial hr
 rw[←henter]at harr
 cases e with
 | normal=>
  obtain⟨⟨ds,hds⟩,hq⟩:=hq
  rw[hds]at hq
  obtain⟨v,w2,fr',hR,hs,hk,hfn,hg⟩:=JQ (P:=P) (fn:=fn) ds w' {b.atR a' []with mode:=.returning} (c₀::cs) rfl hds rfl hf hq
  refine⟨.returned v,u,w2,fr',⟨rfl,hR⟩,?_,hk,hfn,hg⟩
  rw[hc]
  exact StepsIn.trans (StepsIn.trans harr (.one (fenced_calm (fr:=b.atR a' []) trivial hr rfl) (stepR_end rfl))) hs
 | ret=>
  obtain⟨⟨ds,hds⟩,hq⟩:=hq
  obtain⟨todo,hs0⟩:=harr.1 rfl
  rw[hds]at hq
  obtain⟨v,w2,fr',hR,hs,hk,hfn,hg⟩:=JQ (P:=P) (fn:=fn) ds w' {b.atR a' todo with mode:=.returning} (c₀::cs) rfl hds rfl hf hq
  refine⟨.returned v,u,w2,fr',⟨rfl,hR⟩,?_,hk,hfn,hg⟩
  rw[hc]
  exact StepsIn.trans hs0 hs
 | exit id=>exact hq.elim
 | goto l=>exact hq.elim
 | panic ch=>exact hq.elim
 | outgrown=>exact hq.elim
def Iy (P:Program) (I:Inv) (f:FuncId) (args:List V1) (pre:List AB) (Q:AV→List AB→List AB→Prop):Prop:=
 (∃fn c,P.funcs[f]?=some fn∧fn.body=some c∧(fn.name== "runtime.NumGoroutine")=false)∧
 ∀w X g (vals:Array Value),(∀b o,X b o→b<w.heap.size)→I.at w (Al (zone g (Ae pre)) X)→C9 w X g (Ae pre)→(∀n,g (.loc n)=undef)→vals.size=args.length→
  (∀(j:Nat) x v,args[j]?=some x→vals[j]?=some v→Ag w (Al (zone g (Ae pre)) X) g (Ae pre) x v)→
  CallsDIn Fence.wide 0 P f vals .returning w fun e u' w'=>u'= .returning∧∃v g' res post new,Q res post new∧e= .returned v∧Bq w X g pre res post new v w' g'
theorem Iy.intro {P:Program}{I:Inv}{ti:Types}(dr:AY→Nat→LB) (hti:Ao P ti) (h1:BB ti) (hdr:∀C:Cx,C.P=P→D9 C (dr C.M C.nt)) {f:FuncId}{fn:Func}{c:Code}(hf:P.funcs[f]?=some fn) (hb:fn.body=some c)
  (hname:(fn.name== "runtime.NumGoroutine")=false) {args:List V1} {pre:List AB} {Q:AV→List AB→List AB→Prop} (hargs:args.length≤fn.ntmps)
  (hx:∀M:AY,M.P=P→M.I=I→exec M ti fn.ntmps (dr M fn.ntmps) c ⟨slotsOf args 0,A9 pre 0,0⟩ fun e σ=>match e with
   | .exit _=>False
   | .normal=>∃res post new,Q res post new∧DZ ti fn.results.toList σ res post new
   | .ret=>∃res post new,Q res post new∧DZ ti fn.results.toList σ res post new):Iy P I f args pre Q:=
 ⟨⟨fn,c,hf,hb,hname⟩,fun w X g vals hX hI RH hg hsz hargs'=>OA hf hb (Bk.body dr hti h1 hdr hf hb hname hargs hx w X g vals hX hI RH hg hsz hargs')⟩
def Eo (M:AY) (ti:Types) (rs:List ResultVar) (Q:AV→List AB→List AB→Prop) (f:Nat) (cs:List FC):List D→St→Prop
 | [],σ=>∃σ1,A8 σ σ1∧∃res post new,Q res post new∧DZ ti rs σ1 res post new
 | r::rows,σ=>∃σ1,A8 σ σ1∧AH σ1.slots DT= .df f cs (r::rows)∧∃(m:List Id) (targs:List V1) (pre:List AB) (Qd:AV→List AB→List AB→Prop),Iy M.P M.I f targs pre Qd∧(fill cs r.cells).map O0=targs.map (V1.Ar (Av m σ1.next))∧m.length=pre.length∧m.Nodup∧
   Ni (AK σ1.heap) (Av m σ1.next) m pre∧∀res post new,Qd res post new→(BI pre post∧new.length≤31)∧
    Eo M ti rs Q f cs rows ⟨(DT,.df f cs rows)::σ1.slots,Be σ1.heap (Iv m (Av m σ1.next) post++B4 σ1.next (Av m σ1.next) 0 new),σ1.next+32⟩
theorem Eo.oQ {M:AY}{ti:Types}{rs:List ResultVar}{Q:AV→List AB→List AB→Prop}{f:Nat}{cs:List FC}:∀{rows:List D}{σ σ':St},A8 σ σ'→Eo M ti rs Q f cs rows σ'→Eo M ti rs Q f cs rows σ
 | [],σ,σ',hw,h=>by
  obtain⟨σ1,h1,h⟩:=h
  exact⟨σ1,A8.trans hw h1,h⟩
 | r::rows,σ,σ',hw,h=>by
  obtain⟨σ1,h1,h⟩:=h
  exact⟨σ1,A8.trans hw h1,h⟩
theorem Fz {P:Program}{I:Inv}{ti:Types}{fn:Func}{Q:AV→List AB→List AB→Prop}{f:Nat}{cs:List FC}{w:World}{X:Ad}{g:AL}{pre:List AB}{C:Cx}(hti:Ao P ti) (h1:BB ti) (hMP:C.M.P=P) (hMc:C.M.cl=true)
  (hw0:BZ (zone g (Ae pre)) w C.w0) (hX:∀b o,X b o→C.X b o) (hZ:∀b o,C.Z0 b o→zone g (Ae pre) b o∨w.heap.size≤b) (hg:∀j,CQ (g (.ext j)) (C.g0 (.ext j))):∀(rows:List D) (σ:St) (a:Act) (w1:World) (tmps:Array Value),
  Eo C.M ti fn.results.toList Q f cs rows σ→AH σ.slots DT= .df f cs rows→a.tmps=tmps→BX C σ a w1→
  LeavesInM Fence.wide 0 P fn tmps (fun e w'=>∃v g' res post new,Q res post new∧e= .returned v∧Bq w X g pre res post new v w' g') a.defers .returning w1
 | [],σ0,a,w1,tmps,hk,hdt,ht,R0=>by
  obtain⟨g0,R0⟩:=R0
  have hd:=R0.defers
  rw[hMc]at hd
  have hd0:=(hd f cs [] hdt).1
  have hd1:a.defers=[]:=by simpa using hd0
  rw[hd1]
  obtain⟨σ1,hwk0,res,post,new,hQ,gs,hfin⟩:=hk
  obtain⟨σ,hweak,hfin⟩:=Bj hfin
  obtain⟨g1,R1⟩:=hweak _ _ _ (hwk0 _ _ _ ⟨g0,R0⟩)
  have hP:C.P=P:=hMP
  have hti2:Ao C.P ti:=by rw[hP];exact hti
  obtain⟨xs,vs,⟨nm,hnd,hres,hpost,hnewo,hhand⟩,hrun,hlen,hrel⟩:=EO (C:=C) hti2 h1 R1 _ _ hfin
  obtain⟨f1,f2,f3,f4⟩:=finish (X:=X) R1 hX (Ba.1 hnd) hpost hnewo hhand
  have hrr:=Hk (C:=C) hrun
  rw[hP,ht]at hrr
  refine⟨_,hrr,_,fun i=>g1 (CY nm σ.next i),res,post,new,hQ,rfl,⟨f1,?_,?_,fun j=>(hg j).trans (R1.ext j),fun i ob b o hi hb=>?_,f3⟩⟩
  ·refine f4 res _ ?_
   rw[←hres]
   have other:xs.length≠1→An w1 (Al (zone g1 (AK σ.heap)) C.X) g1 (AK σ.heap) (.t xs) (.tuple vs.toArray):=fun _=>
    ⟨vs.toArray,rfl,by simpa using hlen,fun j x v hx hv=>hrel j x v hx (by simpa using hv)⟩
   match xs,vs,hlen,hrel,other with
   | [x],[v],_,hrel,_=>exact hrel 0 x v rfl rfl
   | [],[],_,_,other=>exact other (by simp)
   | x::y::xs,v::u::vs,hl,_,other=>
    have:¬(v::u::vs).toArray.size=1:=by simp
    simp only[dif_neg this]
    exact other (by simp)
  ·refine hw0.then (R1.frame) (fun b o hz=>hZ b o hz)
  ·obtain⟨j,ob',hj,hz⟩:=f2 i ob b o hi hb
   rcases R1.within j ob' b o hj hz with hz | hz
   ·exact hZ b o hz
   ·exact .inr (Nat.le_trans hw0.size hz)
 | r::rows,σ0,a,w1,tmps,hk,hdt,ht,R0=>by
  obtain⟨σ,hwk,hdt,m,targs,pre',Qd,htrip,hargs,hlen,hnd,hpre,hK⟩:=hk
  obtain⟨g1,R1⟩:=hwk _ _ _ R0
  have hcl:C.M.cl=true:=hMc
  have hd:=R1.defers
  rw[hcl]at hd
  obtain⟨hl,hds⟩:=hd f cs (r::rows) hdt
  cases hda:a.defers with
  | nil=>rw[hda]at hl;simp at hl
  | cons d ds=>
   rw[hda]at hl hds
   obtain⟨ps,rfl,hclo⟩:=hds 0 r d rfl rfl
   obtain⟨hpsz,hcap⟩:=NA (h:=AK σ.heap) hclo
   have hP:C.P=P:=hMP
   obtain⟨⟨fnd,body,hfn,hb,hname⟩,htrip⟩:=htrip
   rw[show C.M.P=P from hP]at hfn htrip
   have hn':¬fnd.name= "runtime.NumGoroutine" :=by simpa using hname
   refine⟨by simp,.inr ⟨(fun h=>by cases h),.func f,ps,f,ps,rfl,?_,fun _ _=>trivial,?_⟩⟩
   ·simp[invoke,callFunc,hfn,hb,hn']
   have core:=DC (C:=C) (Qp:=Qd) (Run:=fun p=>CallsDIn Fence.wide 0 P f ps .returning w1 fun e u' w'=>u'= .returning∧p e w') (vals:=ps) (dst:=none) (Q:=fun _ _ _=>False) (a:=a) R1 (fun hpq hp=>CallsDIn.mono hp fun e u' w' q=>⟨q.1,hpq _ _ q.2⟩)
    (fun X' g' _ k1 k2 k3 k4 k6=>htrip w1 X' g' ps k1 k2 k3 k4 (by have:=congrArg List.length hargs;simp at this;omega) k6) hlen hnd hpre (fun r p q h=>(hK r p q h).1) (fun k _=>by show σ.next≤_;omega) (fun d hd=>by cases hd) (targs:=targs) (by rw[←hargs];exact hcap)
   refine CallsDIn.mono core ?_
   rintro e u' w2 ⟨rfl,he⟩
   cases e with
   | panicked ch=>exact he.elim
   | outgrown=>exact absurd he (by simp[LetsOut])
   | returned v=>
    obtain⟨res,post,new,hq,g2,_,R2⟩:=he
    have hlv:=(hK res post new hq).2
    have R3:BX C ⟨(DT,.df f cs rows)::σ.slots,Be σ.heap (Iv m (Av m σ.next) post++B4 σ.next (Av m σ.next) 0 new),σ.next+32⟩ {tmps:=a.tmps,defers:=ds} w2:=by
     refine⟨g2,?_⟩
     have hdf:=R2.defers
     rw[hcl]at hdf
     obtain⟨q1,q2⟩:=hdf f cs (r::rows) (by simpa [Bp] using hdt)
     have hda':(a.put none v).defers=⟨.fn (.func f) ps,#[]⟩::ds:=hda
     rw[hda']at q1 q2
     rw[Bw]
     refine {R2.AW (F':=fun n=>σ.next+32≤n) (fun n hn=>⟨by omega,by omega⟩)with size:=R2.size,defers:=?_,slots:=fun t=>?_}
     ·rw[hcl]
      intro f' cs' rows' e
      rw[Ai]at e
      simp only[Bp]at e
      cases e
      exact⟨by simpa using q1,fun k y d hy hd=>q2 (k+1) y d (by simpa using hy) (by simpa using hd)⟩
     ·rw[Ai]
      simp only[Bp]
      split
      ·trivial
      ·exact R2.slots t
    have:=Fz (P:=P) (I:=I) (fn:=fn) hti h1 hMP hMc hw0 hX hZ hg rows _ {tmps:=a.tmps,defers:=ds} w2 tmps hlv (by rw[Ai];simp[Bp]) ht R3
    exact this
theorem Bk.kB {P:Program}{I:Inv}{ti:Types}(dr:AY→Nat→LB) (hti:Ao P ti) (h1:BB ti) (hdr:∀C:Cx,C.P=P→D9 C (dr C.M C.nt)) {f:FuncId}{fn:Func}{c:Code}(hf:P.funcs[f]?=some fn) (hb:fn.body=some c)
  (hname:(fn.name== "runtime.NumGoroutine")=false) {args:List V1} {pre:List AB} {Q:AV→List AB→List AB→Prop} (hargs:args.length≤fn.ntmps) (hnt:fn.ntmps≤DT) (hnr:Cc c=true) (fd:Nat) (cs:List FC)
  (hx:∀M:AY,M.P=P→M.I=I→M.cl=true→exec M ti fn.ntmps (dr M fn.ntmps) c ⟨(DT,.df fd cs [])::slotsOf args 0,A9 pre 0,0⟩ fun e σ=>match e with
   | .exit _=>False
   | .normal=>∃rows,Eo M ti fn.results.toList Q fd cs rows σ∧AH σ.slots DT= .df fd cs rows
   | .ret=>∃rows,Eo M ti fn.results.toList Q fd cs rows σ∧AH σ.slots DT= .df fd cs rows):Bk P I f args pre Q:=by
 refine⟨⟨fn,c,hf,hb,hname⟩,fun w X g vals hX hI RH hg hsz hargs'=>?_⟩
 let C:Cx:={M:=AY.of P I true,nt:=fn.ntmps,w0:=w,Z0:=zone g (Ae pre),X:=X,g0:=g,hinv:=hI,ro:=none,D:=[],hro:=fun l hl=>(by cases hl),hD:=fun r hr=>(by cases hr),hDn:=List.nodup_nil,hcl:=fun _=>⟨hnt,rfl⟩}
 have R0:BX C ⟨(DT,.df fd cs [])::slotsOf args 0,A9 pre 0,0⟩ {tmps:=vals++Array.replicate (fn.ntmps - vals.size) undef,defers:=[]} w:=by
  refine EA (P:=P) (by simp[C];omega) ?_ (fun t=>?_) RH rfl rfl (fun _ _ h=>h) hX hg
  ·show DH _ _ _ true _ _ _
   rw[Ai]
   simp only[if_pos]
   intro f' cs' rows' e
   cases e
   exact⟨rfl,fun k r d hr=>by simp at hr⟩
  ·rw[Ai]
   simp only[]
   split
   ·trivial
   rcases De args 0 t with h | ⟨x,_,h2,h3⟩
   ·rw[h];trivial
   ·rw[h3]
    simp only[Nat.sub_zero]at h2
    have hlt:t<vals.size:=by rw[hsz];exact (List.getElem?_eq_some_iff.1 h2).1
    have:(vals++Array.replicate (fn.ntmps - vals.size) undef).getD t undef=vals[t]:=by
     simp[Array.getElem?_append,hlt]
    show Ag w _ g _ x ((vals++Array.replicate (fn.ntmps - vals.size) undef).getD t undef)
    rw[this]
    exact hargs' t x _ h2 (by simp[hlt])
 refine callsIn_wide.1 (callsIn_of_wp_marks (n:=0) hf hb trivial (wpIn_mono (BS (M:=AY.of P I true) (ro:=none) hti h1 (fun C hC hn=>by
  have:=hdr C (by show C.M.P=P;rw[hC];rfl)
  rw[hC,hn]at this
  exact this) c _ _ C _ w rfl rfl rfl (fun _=>hnr) (hx (AY.of P I true) rfl rfl rfl) R0) ?_))
 have fin:∀(C':Cx) (σ:St) (a':Act) (w':World),DV C C'→(∃rows,Eo (AY.of P I true) ti fn.results.toList Q fd cs rows σ∧AH σ.slots DT= .df fd cs rows)→BX C' σ a' w'→
   LeavesInM Fence.wide 0 P fn a'.tmps (fun e w'=>∃v g' res post new,Q res post new∧e= .returned v∧Bq w X g pre res post new v w' g') a'.defers .returning w':=by
  rintro C' σ a' w' hle ⟨rows,hlv,hdt⟩ R
  exact Fz (P:=P) (I:=I) hti h1 (by rw[hle.M];rfl) (by rw[hle.M];rfl) hle.frame (fun b o hx=>hle.X b o hx) hle.Z0 hle.ext rows σ a' w' _ (by rw[hle.M];exact hlv) hdt rfl R
 intro e a' w' hq
 cases e with
 | normal=>obtain⟨C',hle,σ,hf',hr⟩:=hq;exact fin C' σ a' w' hle hf' hr
 | ret=>obtain⟨C',hle,σ,hf',hr⟩:=hq;exact fin C' σ a' w' hle hf' hr
 | exit id=>obtain⟨C',hle,σ,hf',hr⟩:=hq;exact hf'.elim
 | goto l=>exact hq.elim
 | panic ch=>obtain⟨C',hle,v0,s,h,nx,hpn,_⟩:=hq;rw[hle.M]at hpn;exact hpn.elim
 | outgrown=>exact hq.elim
theorem Eo.loop {M:AY}{ti:Types}{rs:List ResultVar}{Q:AV→List AB→List AB→Prop}{f:Nat}{cs:List FC}{T:Type}(S:List D→T→St) (I:List D→T→Prop)
  (step:∀r rows t,I (r::rows) t→∃σ1,A8 (S (r::rows) t) σ1∧AH σ1.slots DT= .df f cs (r::rows)∧∃(m:List Id) (targs:List V1) (pre:List AB) (Qd:AV→List AB→List AB→Prop),Iy M.P M.I f targs pre Qd∧(fill cs r.cells).map O0=targs.map (V1.Ar (Av m σ1.next))∧m.length=pre.length∧m.Nodup∧
   Ni (AK σ1.heap) (Av m σ1.next) m pre∧∀res post new,Qd res post new→(BI pre post∧new.length≤31)∧
    ∃t',A8 ⟨(DT,.df f cs rows)::σ1.slots,Be σ1.heap (Iv m (Av m σ1.next) post++B4 σ1.next (Av m σ1.next) 0 new),σ1.next+32⟩ (S rows t')∧I rows t')
  (fin:∀t,I [] t→∃res post new,Q res post new∧DZ ti rs (S [] t) res post new):∀rows t,I rows t→Eo M ti rs Q f cs rows (S rows t)
 | [],t,hi=>⟨_,A8.refl _,fin t hi⟩
 | r::rows,t,hi=>by
  obtain⟨σ1,h1,h2,m,targs,pre,Qd,h3,h4,h5,h6,h7,h8⟩:=step r rows t hi
  refine⟨σ1,h1,h2,m,targs,pre,Qd,h3,h4,h5,h6,h7,fun res post new hq=>⟨(h8 res post new hq).1,?_⟩⟩
  obtain⟨t',hw,hi'⟩:=(h8 res post new hq).2
  exact Eo.oQ hw (Eo.loop S I step fin rows t' hi')
end Go.AM
namespace Go.AM
open Go Go.RowKit
theorem Iy.of {P:Program}{I:Inv}{ti:Types}(hti:Ao P ti) (h1:BB ti) (hm:P.follows .mixedOrders=true) {f:FuncId}{fn:Func}{c:Code}(hf:P.funcs[f]?=some fn) (hb:fn.body=some c)
  (hname:(fn.name== "runtime.NumGoroutine")=false) {args:List V1} {pre post new:List AB} {res:AV} {nt:Nat} (hnt:fn.ntmps=nt) (hargs:Nat.ble args.length nt=true) {rs:List ResultVar} (hrs:fn.results.toList=rs)
  (hx:∀M:AY,M.P=P→M.I=I→exec M ti nt (A4 ti M nt) c ⟨slotsOf args 0,A9 pre 0,0⟩ fun e σ=>match e with
   | .exit _=>False
   | .normal=>∃r p n,(r=res∧p=post∧n=new)∧DZ ti rs σ r p n
   | .ret=>∃r p n,(r=res∧p=post∧n=new)∧DZ ti rs σ r p n):Iy P I f args pre (fun r p n=>r=res∧p=post∧n=new):=by
 subst hnt
 subst hrs
 exact Iy.intro (fun M nt=>A4 ti M nt) hti h1 (Ut hti h1 hm) hf hb hname (Nat.le_of_ble_eq_true hargs) hx
theorem Iy.at {P:Program}{I:Inv}{M:AY}{f:FuncId}{args:List V1}{pre:List AB}{Q:AV→List AB→List AB→Prop}(hP:M.P=P) (hI:M.I=I) (h:Iy P I f args pre Q):Iy M.P M.I f args pre Q:=by rw[hP,hI];exact h
end Go.AM
namespace Go.Proofs.YtaomkgkdfafiiaaGreatDoor
open Go Go.AM
theorem XL:Tryz.prog.follows .mixedOrders=true:=by kernel_rfl
theorem ZB {P:Program}{name:String}{g:Nat}(hg:P.globalNamed name=some g) {w w':World}(h:w'.heap[g]?=w.heap[g]?):w'.var? P name=w.var? P name:=by
 unfold World.var?
 rw[hg]
 simp only[Option.bind_some,h]
theorem ZC:∃g,Tryz.prog.globalNamed "internal/strconv.uint64pow10" =some g:=⟨0,by kernel_rfl⟩
def inv:Inv:=⟨fun b=>Tryz.prog.globalNamed "internal/strconv.uint64pow10" =some b,fun w=>Lib.TabIs Tryz.prog w "internal/strconv.uint64pow10" .u64 Lib.pow10Tab,fun h hr=>by
 obtain⟨g,hg⟩:=ZC
 unfold Lib.TabIs at hr ⊢
 rw[ZB hg (h g hg)]
 exact hr⟩
end Go.Proofs.YtaomkgkdfafiiaaGreatDoor
