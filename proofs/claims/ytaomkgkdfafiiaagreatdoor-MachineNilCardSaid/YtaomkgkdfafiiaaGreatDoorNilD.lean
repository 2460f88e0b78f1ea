/- Part of a proof. No condition. (Part 4.) -/
import Derived.Test.YtaomkgkdfafiiaaGreatDoorProg
import Derived.KernelRfl
import Derived.Laws.CopyRow
import Derived.DataReads
import Derived.Test.YtaomkgkdfafiiaaGreatDoorNilC
set_option linter.unusedVariables false
set_option linter.unusedSimpArgs false
namespace Go.Proofs.YtaomkgkdfafiiaaGreatDoor
open Go Go.AM
def tabC0:List (Nat×TI):=[(1,⟨.func #[] #[] false,1,8,.nilFunc,[.nilf]⟩),
 (2,⟨.int .i64,1,8,.int .i64 0,[.d (.int .i64 0)]⟩),
 (3,⟨.int .i64,1,8,.int .i64 0,[.d (.int .i64 0)]⟩),
 (4,⟨.bool,1,1,.bool false,[.d (.bool false)]⟩),
 (5,⟨.int .u8,1,1,.int .u8 0,[.d (.int .u8 0)]⟩),
 (6,⟨.int .u8,1,1,.int .u8 0,[.d (.int .u8 0)]⟩),
 (7,⟨.struct #[⟨"x",2,0,false, "", "runtime",0⟩,⟨"y",3,1,false, "", "runtime",8⟩,⟨"signed",4,2,false, "", "runtime",16⟩,⟨"code",6,3,false, "", "runtime",17⟩],4,24,.agg #[.int .i64 0,.int .i64 0,.bool false,.int .u8 0],[.d (.int .i64 0),.d (.int .i64 0),.d (.bool false),.d (.int .u8 0)]⟩),
 (8,⟨.struct #[⟨"x",2,0,false, "", "runtime",0⟩,⟨"y",3,1,false, "", "runtime",8⟩,⟨"signed",4,2,false, "", "runtime",16⟩,⟨"code",6,3,false, "", "runtime",17⟩],4,24,.agg #[.int .i64 0,.int .i64 0,.bool false,.int .u8 0],[.d (.int .i64 0),.d (.int .i64 0),.d (.bool false),.d (.int .u8 0)]⟩),
 (9,⟨.string,1,16,.string ByteArray.empty,[.d (.str ByteArray.empty)]⟩),
 (10,⟨.string,1,16,.string ByteArray.empty,[.d (.str ByteArray.empty)]⟩),
 (11,⟨.string,1,16,.string ByteArray.empty,[.d (.str ByteArray.empty)]⟩),
 (12,⟨.int .u64,1,8,.int .u64 0,[.d (.int .u64 0)]⟩),
 (13,⟨.struct #[⟨"msg",9,0,false, "", "runtime",0⟩,⟨"addr",12,1,false, "", "runtime",16⟩],2,24,.agg #[.string ByteArray.empty,.int .u64 0],[.d (.str ByteArray.empty),.d (.int .u64 0)]⟩),
 (14,⟨.struct #[⟨"msg",9,0,false, "", "runtime",0⟩,⟨"addr",12,1,false, "", "runtime",16⟩],2,24,.agg #[.string ByteArray.empty,.int .u64 0],[.d (.str ByteArray.empty),.d (.int .u64 0)]⟩),
 (15,⟨.pointer 307,1,8,.pointer none,[.nilp]⟩)]
def tabC1:List (Nat×TI):=[(16,⟨.pointer 310,1,8,.pointer none,[.nilp]⟩),
 (17,⟨.pointer 317,1,8,.pointer none,[.nilp]⟩),
 (18,⟨.struct #[⟨"typ",17,0,false, "", "internal/runtime/maps",0⟩],1,8,.agg #[.pointer none],[.nilp]⟩),
 (19,⟨.struct #[⟨"typ",17,0,false, "", "internal/runtime/maps",0⟩],1,8,.agg #[.pointer none],[.nilp]⟩),
 (20,⟨.interface #[],1,16,.nilIface,[.un]⟩),
 (21,⟨.int .i32,1,4,.int .i32 0,[.d (.int .i32 0)]⟩),
 (22,⟨.pointer 35,1,8,.pointer none,[.nilp]⟩),
 (23,⟨.slice 73,1,24,.slice none 0 0,[.nils true 4]⟩),
 (24,⟨.slice 256,1,24,.slice none 0 0,[.nils true 16]⟩),
 (25,⟨.struct #[⟨"Funcs",23,0,false, "", "",0⟩,⟨"Main",3,1,false, "", "",24⟩,⟨"Types",24,2,false, "", "",32⟩],3,56,.agg #[.slice none 0 0,.int .i64 0,.slice none 0 0],[.nils true 4,.d (.int .i64 0),.nils true 16]⟩),
 (26,⟨.struct #[⟨"Funcs",23,0,false, "", "",0⟩,⟨"Main",3,1,false, "", "",24⟩,⟨"Types",24,2,false, "", "",32⟩],3,56,.agg #[.slice none 0 0,.int .i64 0,.slice none 0 0],[.nils true 4,.d (.int .i64 0),.nils true 16]⟩),
 (27,⟨.pointer 122,1,8,.pointer none,[.nilp]⟩),
 (28,⟨.pointer 192,1,8,.pointer none,[.nilp]⟩),
 (29,⟨.pointer 221,1,8,.pointer none,[.nilp]⟩),
 (30,⟨.pointer 239,1,8,.pointer none,[.nilp]⟩),
 (31,⟨.pointer 188,1,8,.pointer none,[.nilp]⟩)]
def tabC2:List (Nat×TI):=[(32,⟨.slice 61,1,24,.slice none 0 0,[.nils false 1]⟩),
 (33,⟨.slice 86,1,24,.slice none 0 0,[.nils true 4]⟩),
 (34,⟨.struct #[⟨"u",26,0,false, "", "weftway/machine",0⟩,⟨"heap",27,3,false, "", "weftway/machine",56⟩,⟨"counts",28,4,false, "", "weftway/machine",64⟩,⟨"locks",29,5,false, "", "weftway/machine",72⟩,⟨"queues",30,6,false, "", "weftway/machine",80⟩,⟨"table",31,7,false, "", "weftway/machine",88⟩,⟨"threads",32,8,false, "", "weftway/machine",96⟩,⟨"trace",33,9,false, "", "weftway/machine",120⟩,⟨"fault",5,10,false, "", "weftway/machine",144⟩,⟨"now",3,11,false, "", "weftway/machine",152⟩],12,160,.agg #[.slice none 0 0,.int .i64 0,.slice none 0 0,.pointer none,.pointer none,.pointer none,.pointer none,.pointer none,.slice none 0 0,.slice none 0 0,.int .u8 0,.int .i64 0],[.nils true 4,.d (.int .i64 0),.nils true 16,.nilp,.nilp,.nilp,.nilp,.nilp,.nils false 1,.nils true 4,.d (.int .u8 0),.d (.int .i64 0)]⟩),
 (35,⟨.struct #[⟨"u",26,0,false, "", "weftway/machine",0⟩,⟨"heap",27,3,false, "", "weftway/machine",56⟩,⟨"counts",28,4,false, "", "weftway/machine",64⟩,⟨"locks",29,5,false, "", "weftway/machine",72⟩,⟨"queues",30,6,false, "", "weftway/machine",80⟩,⟨"table",31,7,false, "", "weftway/machine",88⟩,⟨"threads",32,8,false, "", "weftway/machine",96⟩,⟨"trace",33,9,false, "", "weftway/machine",120⟩,⟨"fault",5,10,false, "", "weftway/machine",144⟩,⟨"now",3,11,false, "", "weftway/machine",152⟩],12,160,.agg #[.slice none 0 0,.int .i64 0,.slice none 0 0,.pointer none,.pointer none,.pointer none,.pointer none,.pointer none,.slice none 0 0,.slice none 0 0,.int .u8 0,.int .i64 0],[.nils true 4,.d (.int .i64 0),.nils true 16,.nilp,.nilp,.nilp,.nilp,.nilp,.nils false 1,.nils true 4,.d (.int .u8 0),.d (.int .i64 0)]⟩),
 (36,⟨.slice 22,1,24,.slice none 0 0,[.nils false 1]⟩),
 (38,⟨.func #[3] #[5,4] false,1,8,.nilFunc,[.nilf]⟩),
 (39,⟨.slice 42,1,24,.slice none 0 0,[.nils true 6]⟩),
 (40,⟨.slice 3,1,24,.slice none 0 0,[.nils false 1]⟩),
 (41,⟨.struct #[⟨"Kind",5,0,false, "", "",0⟩,⟨"Int",2,1,false, "", "",8⟩,⟨"Name",9,2,false, "", "",16⟩,⟨"Fields",39,3,false, "", "",32⟩,⟨"ID",3,4,false, "", "",56⟩,⟨"Path",40,5,false, "", "",64⟩],6,88,.agg #[.int .u8 0,.int .i64 0,.string ByteArray.empty,.slice none 0 0,.int .i64 0,.slice none 0 0],[.d (.int .u8 0),.d (.int .i64 0),.d (.str ByteArray.empty),.nils true 6,.d (.int .i64 0),.nils false 1]⟩),
 (42,⟨.struct #[⟨"Kind",5,0,false, "", "",0⟩,⟨"Int",2,1,false, "", "",8⟩,⟨"Name",9,2,false, "", "",16⟩,⟨"Fields",39,3,false, "", "",32⟩,⟨"ID",3,4,false, "", "",56⟩,⟨"Path",40,5,false, "", "",64⟩],6,88,.agg #[.int .u8 0,.int .i64 0,.string ByteArray.empty,.slice none 0 0,.int .i64 0,.slice none 0 0],[.d (.int .u8 0),.d (.int .i64 0),.d (.str ByteArray.empty),.nils true 6,.d (.int .i64 0),.nils false 1]⟩),
 (44,⟨.func #[] #[42,4] false,1,8,.nilFunc,[.nilf]⟩),
 (45,⟨.int .i64,1,8,.int .i64 0,[.d (.int .i64 0)]⟩),
 (46,⟨.func #[3] #[45] false,1,8,.nilFunc,[.nilf]⟩),
 (47,⟨.func #[] #[40] false,1,8,.nilFunc,[.nilf]⟩)]
def tabC3:List (Nat×TI):=[(48,⟨.func #[] #[33] false,1,8,.nilFunc,[.nilf]⟩),
 (49,⟨.func #[] #[3] false,1,8,.nilFunc,[.nilf]⟩),
 (50,⟨.func #[] #[5] false,1,8,.nilFunc,[.nilf]⟩),
 (51,⟨.func #[] #[4] false,1,8,.nilFunc,[.nilf]⟩),
 (52,⟨.func #[3] #[4] false,1,8,.nilFunc,[.nilf]⟩),
 (53,⟨.struct #[⟨"Kind",5,0,false, "", "",0⟩,⟨"Result",2,1,false, "", "",8⟩,⟨"Left",3,2,false, "", "",16⟩,⟨"Why",5,3,false, "", "",24⟩,⟨"Steps",3,4,false, "", "",32⟩],5,40,.agg #[.int .u8 0,.int .i64 0,.int .i64 0,.int .u8 0,.int .i64 0],[.d (.int .u8 0),.d (.int .i64 0),.d (.int .i64 0),.d (.int .u8 0),.d (.int .i64 0)]⟩),
 (54,⟨.struct #[⟨"Kind",5,0,false, "", "",0⟩,⟨"Result",2,1,false, "", "",8⟩,⟨"Left",3,2,false, "", "",16⟩,⟨"Why",5,3,false, "", "",24⟩,⟨"Steps",3,4,false, "", "",32⟩],5,40,.agg #[.int .u8 0,.int .i64 0,.int .i64 0,.int .u8 0,.int .i64 0],[.d (.int .u8 0),.d (.int .i64 0),.d (.int .i64 0),.d (.int .u8 0),.d (.int .i64 0)]⟩),
 (55,⟨.func #[3] #[40] false,1,8,.nilFunc,[.nilf]⟩),
 (56,⟨.func #[54] #[9] false,1,8,.nilFunc,[.nilf]⟩),
 (57,⟨.func #[54,3] #[4] false,1,8,.nilFunc,[.nilf]⟩),
 (58,⟨.slice 69,1,24,.slice none 0 0,[.nils false 1]⟩),
 (59,⟨.struct #[⟨"frames",58,0,false, "", "weftway/machine",0⟩,⟨"why",5,1,false, "", "weftway/machine",24⟩,⟨"ended",4,2,false, "", "weftway/machine",25⟩,⟨"result",42,3,false, "", "weftway/machine",32⟩],9,120,.agg #[.slice none 0 0,.int .u8 0,.bool false,.int .u8 0,.int .i64 0,.string ByteArray.empty,.slice none 0 0,.int .i64 0,.slice none 0 0],[.nils false 1,.d (.int .u8 0),.d (.bool false),.d (.int .u8 0),.d (.int .i64 0),.d (.str ByteArray.empty),.nils true 6,.d (.int .i64 0),.nils false 1]⟩),
 (60,⟨.struct #[⟨"frames",58,0,false, "", "weftway/machine",0⟩,⟨"why",5,1,false, "", "weftway/machine",24⟩,⟨"ended",4,2,false, "", "weftway/machine",25⟩,⟨"result",42,3,false, "", "weftway/machine",32⟩],9,120,.agg #[.slice none 0 0,.int .u8 0,.bool false,.int .u8 0,.int .i64 0,.string ByteArray.empty,.slice none 0 0,.int .i64 0,.slice none 0 0],[.nils false 1,.d (.int .u8 0),.d (.bool false),.d (.int .u8 0),.d (.int .i64 0),.d (.str ByteArray.empty),.nils true 6,.d (.int .i64 0),.nils false 1]⟩),
 (61,⟨.pointer 60,1,8,.pointer none,[.nilp]⟩),
 (62,⟨.func #[42] #[42] false,1,8,.nilFunc,[.nilf]⟩),
 (63,⟨.func #[40,3] #[4] false,1,8,.nilFunc,[.nilf]⟩)]
def tabC4:List (Nat×TI):=[(64,⟨.struct #[⟨"fault",5,0,false, "", "weftway/machine",0⟩],1,1,.agg #[.int .u8 0],[.d (.int .u8 0)]⟩),
 (65,⟨.struct #[⟨"fault",5,0,false, "", "weftway/machine",0⟩],1,1,.agg #[.int .u8 0],[.d (.int .u8 0)]⟩),
 (66,⟨.struct #[⟨"why",5,0,false, "", "weftway/machine",0⟩],1,1,.agg #[.int .u8 0],[.d (.int .u8 0)]⟩),
 (67,⟨.struct #[⟨"why",5,0,false, "", "weftway/machine",0⟩],1,1,.agg #[.int .u8 0],[.d (.int .u8 0)]⟩),
 (68,⟨.func #[61] #[] false,1,8,.nilFunc,[.nilf]⟩),
 (69,⟨.pointer 76,1,8,.pointer none,[.nilp]⟩),
 (70,⟨.func #[] #[69] false,1,8,.nilFunc,[.nilf]⟩),
 (71,⟨.slice 80,1,24,.slice none 0 0,[.nils true 9]⟩),
 (72,⟨.struct #[⟨"Name",9,0,false, "", "",0⟩,⟨"Params",3,1,false, "", "",16⟩,⟨"Slots",3,2,false, "", "",24⟩,⟨"Code",71,3,false, "", "",32⟩],4,56,.agg #[.string ByteArray.empty,.int .i64 0,.int .i64 0,.slice none 0 0],[.d (.str ByteArray.empty),.d (.int .i64 0),.d (.int .i64 0),.nils true 9]⟩),
 (73,⟨.struct #[⟨"Name",9,0,false, "", "",0⟩,⟨"Params",3,1,false, "", "",16⟩,⟨"Slots",3,2,false, "", "",24⟩,⟨"Code",71,3,false, "", "",32⟩],4,56,.agg #[.string ByteArray.empty,.int .i64 0,.int .i64 0,.slice none 0 0],[.d (.str ByteArray.empty),.d (.int .i64 0),.d (.int .i64 0),.nils true 9]⟩),
 (74,⟨.slice 115,1,24,.slice none 0 0,[.nils true 2]⟩),
 (75,⟨.struct #[⟨"fn",3,0,false, "", "weftway/machine",0⟩,⟨"next",3,1,false, "", "weftway/machine",8⟩,⟨"slots",40,2,false, "", "weftway/machine",16⟩,⟨"stack",39,3,false, "", "weftway/machine",40⟩,⟨"undo",74,4,false, "", "weftway/machine",64⟩],5,88,.agg #[.int .i64 0,.int .i64 0,.slice none 0 0,.slice none 0 0,.slice none 0 0],[.d (.int .i64 0),.d (.int .i64 0),.nils false 1,.nils true 6,.nils true 2]⟩),
 (76,⟨.struct #[⟨"fn",3,0,false, "", "weftway/machine",0⟩,⟨"next",3,1,false, "", "weftway/machine",8⟩,⟨"slots",40,2,false, "", "weftway/machine",16⟩,⟨"stack",39,3,false, "", "weftway/machine",40⟩,⟨"undo",74,4,false, "", "weftway/machine",64⟩],5,88,.agg #[.int .i64 0,.int .i64 0,.slice none 0 0,.slice none 0 0,.slice none 0 0],[.d (.int .i64 0),.d (.int .i64 0),.nils false 1,.nils true 6,.nils true 2]⟩),
 (77,⟨.func #[4] #[] false,1,8,.nilFunc,[.nilf]⟩),
 (78,⟨.slice 9,1,24,.slice none 0 0,[.nils false 1]⟩),
 (79,⟨.struct #[⟨"Op",5,0,false, "", "",0⟩,⟨"A",3,1,false, "", "",8⟩,⟨"B",3,2,false, "", "",16⟩,⟨"C",3,3,false, "", "",24⟩,⟨"Slots",40,4,false, "", "",32⟩,⟨"Path",78,5,false, "", "",56⟩,⟨"Int",2,6,false, "", "",80⟩,⟨"Name",9,7,false, "", "",88⟩,⟨"Names",78,8,false, "", "",104⟩],9,128,.agg #[.int .u8 0,.int .i64 0,.int .i64 0,.int .i64 0,.slice none 0 0,.slice none 0 0,.int .i64 0,.string ByteArray.empty,.slice none 0 0],[.d (.int .u8 0),.d (.int .i64 0),.d (.int .i64 0),.d (.int .i64 0),.nils false 1,.nils false 1,.d (.int .i64 0),.d (.str ByteArray.empty),.nils false 1]⟩)]
def tabC5:List (Nat×TI):=[(80,⟨.struct #[⟨"Op",5,0,false, "", "",0⟩,⟨"A",3,1,false, "", "",8⟩,⟨"B",3,2,false, "", "",16⟩,⟨"C",3,3,false, "", "",24⟩,⟨"Slots",40,4,false, "", "",32⟩,⟨"Path",78,5,false, "", "",56⟩,⟨"Int",2,6,false, "", "",80⟩,⟨"Name",9,7,false, "", "",88⟩,⟨"Names",78,8,false, "", "",104⟩],9,128,.agg #[.int .u8 0,.int .i64 0,.int .i64 0,.int .i64 0,.slice none 0 0,.slice none 0 0,.int .i64 0,.string ByteArray.empty,.slice none 0 0],[.d (.int .u8 0),.d (.int .i64 0),.d (.int .i64 0),.d (.int .i64 0),.nils false 1,.nils false 1,.d (.int .i64 0),.d (.str ByteArray.empty),.nils false 1]⟩),
 (81,⟨.func #[61,69,80] #[] false,1,8,.nilFunc,[.nilf]⟩),
 (82,⟨.func #[61,69,80] #[] false,1,8,.nilFunc,[.nilf]⟩),
 (83,⟨.func #[5] #[82] false,1,8,.nilFunc,[.nilf]⟩),
 (84,⟨.func #[3,61] #[4] false,1,8,.nilFunc,[.nilf]⟩),
 (85,⟨.struct #[⟨"Kind",5,0,false, "", "",0⟩,⟨"Thread",3,1,false, "", "",8⟩,⟨"ID",3,2,false, "", "",16⟩,⟨"Path",40,3,false, "", "",24⟩],4,48,.agg #[.int .u8 0,.int .i64 0,.int .i64 0,.slice none 0 0],[.d (.int .u8 0),.d (.int .i64 0),.d (.int .i64 0),.nils false 1]⟩),
 (86,⟨.struct #[⟨"Kind",5,0,false, "", "",0⟩,⟨"Thread",3,1,false, "", "",8⟩,⟨"ID",3,2,false, "", "",16⟩,⟨"Path",40,3,false, "", "",24⟩],4,48,.agg #[.int .u8 0,.int .i64 0,.int .i64 0,.slice none 0 0],[.d (.int .u8 0),.d (.int .i64 0),.d (.int .i64 0),.nils false 1]⟩),
 (87,⟨.func #[40] #[40] false,1,8,.nilFunc,[.nilf]⟩),
 (88,⟨.func #[71] #[22] true,1,8,.nilFunc,[.nilf]⟩),
 (89,⟨.func #[2] #[80] false,1,8,.nilFunc,[.nilf]⟩),
 (90,⟨.func #[86] #[9] false,1,8,.nilFunc,[.nilf]⟩),
 (91,⟨.array 7 9,7,112,.agg #[.string ByteArray.empty,.string ByteArray.empty,.string ByteArray.empty,.string ByteArray.empty,.string ByteArray.empty,.string ByteArray.empty,.string ByteArray.empty],[.d (.str ByteArray.empty),.d (.str ByteArray.empty),.d (.str ByteArray.empty),.d (.str ByteArray.empty),.d (.str ByteArray.empty),.d (.str ByteArray.empty),.d (.str ByteArray.empty)]⟩),
 (92,⟨.array 2 91,14,224,.agg #[.string ByteArray.empty,.string ByteArray.empty,.string ByteArray.empty,.string ByteArray.empty,.string ByteArray.empty,.string ByteArray.empty,.string ByteArray.empty,.string ByteArray.empty,.string ByteArray.empty,.string ByteArray.empty,.string ByteArray.empty,.string ByteArray.empty,.string ByteArray.empty,.string ByteArray.empty],[.d (.str ByteArray.empty),.d (.str ByteArray.empty),.d (.str ByteArray.empty),.d (.str ByteArray.empty),.d (.str ByteArray.empty),.d (.str ByteArray.empty),.d (.str ByteArray.empty),.d (.str ByteArray.empty),.d (.str ByteArray.empty),.d (.str ByteArray.empty),.d (.str ByteArray.empty),.d (.str ByteArray.empty),.d (.str ByteArray.empty),.d (.str ByteArray.empty)]⟩),
 (93,⟨.func #[] #[92] false,1,8,.nilFunc,[.nilf]⟩),
 (94,⟨.func #[2,3] #[9] false,1,8,.nilFunc,[.nilf]⟩),
 (95,⟨.func #[3] #[9] false,1,8,.nilFunc,[.nilf]⟩)]
def tabC6:List (Nat×TI):=[(96,⟨.func #[91,5] #[9] false,1,8,.nilFunc,[.nilf]⟩),
 (97,⟨.func #[78,9] #[9] false,1,8,.nilFunc,[.nilf]⟩),
 (98,⟨.func #[2] #[9] false,1,8,.nilFunc,[.nilf]⟩),
 (99,⟨.func #[78,5] #[9] false,1,8,.nilFunc,[.nilf]⟩),
 (100,⟨.func #[71] #[26] true,1,8,.nilFunc,[.nilf]⟩),
 (102,⟨.func #[26,40,3] #[54,33,45] false,1,8,.nilFunc,[.nilf]⟩),
 (103,⟨.func #[26,40,3] #[9] false,1,8,.nilFunc,[.nilf]⟩),
 (104,⟨.func #[40,3] #[3] false,1,8,.nilFunc,[.nilf]⟩),
 (105,⟨.func #[61,69,4] #[4] false,1,8,.nilFunc,[.nilf]⟩),
 (106,⟨.func #[145] #[] false,1,8,.nilFunc,[.nilf]⟩),
 (107,⟨.func #[145] #[] false,1,8,.nilFunc,[.nilf]⟩),
 (108,⟨.func #[39] #[107] false,1,8,.nilFunc,[.nilf]⟩),
 (109,⟨.func #[42] #[] false,1,8,.nilFunc,[.nilf]⟩),
 (110,⟨.array 35 82,35,280,.agg #[.nilFunc,.nilFunc,.nilFunc,.nilFunc,.nilFunc,.nilFunc,.nilFunc,.nilFunc,.nilFunc,.nilFunc,.nilFunc,.nilFunc,.nilFunc,.nilFunc,.nilFunc,.nilFunc,.nilFunc,.nilFunc,.nilFunc,.nilFunc,.nilFunc,.nilFunc,.nilFunc,.nilFunc,.nilFunc,.nilFunc,.nilFunc,.nilFunc,.nilFunc,.nilFunc,.nilFunc,.nilFunc,.nilFunc,.nilFunc,.nilFunc],[.nilf,.nilf,.nilf,.nilf,.nilf,.nilf,.nilf,.nilf,.nilf,.nilf,.nilf,.nilf,.nilf,.nilf,.nilf,.nilf,.nilf,.nilf,.nilf,.nilf,.nilf,.nilf,.nilf,.nilf,.nilf,.nilf,.nilf,.nilf,.nilf,.nilf,.nilf,.nilf,.nilf,.nilf,.nilf]⟩),
 (111,⟨.func #[179] #[] false,1,8,.nilFunc,[.nilf]⟩)]
def tabC7:List (Nat×TI):=[(112,⟨.func #[179] #[] false,1,8,.nilFunc,[.nilf]⟩),
 (113,⟨.func #[58] #[112] false,1,8,.nilFunc,[.nilf]⟩),
 (114,⟨.struct #[⟨"kind",5,0,false, "", "weftway/machine",0⟩,⟨"n",3,1,false, "", "weftway/machine",8⟩],2,16,.agg #[.int .u8 0,.int .i64 0],[.d (.int .u8 0),.d (.int .i64 0)]⟩),
 (115,⟨.struct #[⟨"kind",5,0,false, "", "weftway/machine",0⟩,⟨"n",3,1,false, "", "weftway/machine",8⟩],2,16,.agg #[.int .u8 0,.int .i64 0],[.d (.int .u8 0),.d (.int .i64 0)]⟩),
 (116,⟨.map 5 5,1,8,.map none,[.nilm]⟩),
 (117,⟨.func #[69,80] #[42] false,1,8,.nilFunc,[.nilf]⟩),
 (118,⟨.func #[3,3] #[3] false,1,8,.nilFunc,[.nilf]⟩),
 (119,⟨.func #[3] #[3] false,1,8,.nilFunc,[.nilf]⟩),
 (120,⟨.map 3 227,1,8,.map none,[.nilm]⟩),
 (121,⟨.struct #[⟨"cells",120,0,false, "", "weftway/heap",0⟩,⟨"left",3,1,false, "", "weftway/heap",8⟩],2,16,.agg #[.map none,.int .i64 0],[.nilm,.d (.int .i64 0)]⟩),
 (122,⟨.struct #[⟨"cells",120,0,false, "", "weftway/heap",0⟩,⟨"left",3,1,false, "", "weftway/heap",8⟩],2,16,.agg #[.map none,.int .i64 0],[.nilm,.d (.int .i64 0)]⟩),
 (124,⟨.func #[26] #[22,45] false,1,8,.nilFunc,[.nilf]⟩),
 (125,⟨.array 10 9,10,160,.agg #[.string ByteArray.empty,.string ByteArray.empty,.string ByteArray.empty,.string ByteArray.empty,.string ByteArray.empty,.string ByteArray.empty,.string ByteArray.empty,.string ByteArray.empty,.string ByteArray.empty,.string ByteArray.empty],[.d (.str ByteArray.empty),.d (.str ByteArray.empty),.d (.str ByteArray.empty),.d (.str ByteArray.empty),.d (.str ByteArray.empty),.d (.str ByteArray.empty),.d (.str ByteArray.empty),.d (.str ByteArray.empty),.d (.str ByteArray.empty),.d (.str ByteArray.empty)]⟩),
 (126,⟨.func #[] #[125] false,1,8,.nilFunc,[.nilf]⟩),
 (127,⟨.pointer 130,1,8,.pointer none,[.nilp]⟩)]
def tabC8:List (Nat×TI):=[(128,⟨.slice 5,1,24,.slice none 0 0,[.nils false 1]⟩),
 (129,⟨.struct #[⟨"addr",127,0,false, "", "strings",0⟩,⟨"buf",128,1,false, "", "strings",8⟩],2,32,.agg #[.pointer none,.slice none 0 0],[.nilp,.nils false 1]⟩),
 (130,⟨.struct #[⟨"addr",127,0,false, "", "strings",0⟩,⟨"buf",128,1,false, "", "strings",8⟩],2,32,.agg #[.pointer none,.slice none 0 0],[.nilp,.nils false 1]⟩),
 (131,⟨.func #[3] #[] false,1,8,.nilFunc,[.nilf]⟩),
 (135,⟨.func #[9] #[3,133] false,1,8,.nilFunc,[.nilf]⟩),
 (136,⟨.func #[] #[9] false,1,8,.nilFunc,[.nilf]⟩),
 (138,⟨.func #[22,40] #[54,4] false,1,8,.nilFunc,[.nilf]⟩),
 (139,⟨.func #[3,4] #[45] false,1,8,.nilFunc,[.nilf]⟩),
 (140,⟨.func #[5,3,40] #[] true,1,8,.nilFunc,[.nilf]⟩),
 (141,⟨.func #[5] #[] false,1,8,.nilFunc,[.nilf]⟩),
 (142,⟨.func #[3,3,4] #[5] false,1,8,.nilFunc,[.nilf]⟩)]
def tabC9:List (Nat×TI):=[(144,⟨.func #[3] #[4,45] false,1,8,.nilFunc,[.nilf]⟩),
 (145,⟨.func #[3,42] #[4] false,1,8,.nilFunc,[.nilf]⟩),
 (146,⟨.func #[3,5] #[] false,1,8,.nilFunc,[.nilf]⟩),
 (148,⟨.func #[3,40] #[42,5] false,1,8,.nilFunc,[.nilf]⟩),
 (149,⟨.func #[3] #[5] false,1,8,.nilFunc,[.nilf]⟩),
 (150,⟨.func #[3,3] #[4] false,1,8,.nilFunc,[.nilf]⟩),
 (151,⟨.func #[3,3] #[] false,1,8,.nilFunc,[.nilf]⟩),
 (153,⟨.func #[42] #[3,45] false,1,8,.nilFunc,[.nilf]⟩),
 (154,⟨.func #[39] #[] true,1,8,.nilFunc,[.nilf]⟩),
 (155,⟨.func #[5,3] #[] false,1,8,.nilFunc,[.nilf]⟩),
 (157,⟨.func #[69,3,78] #[3,40] false,1,8,.nilFunc,[.nilf]⟩),
 (158,⟨.func #[42] #[4] false,1,8,.nilFunc,[.nilf]⟩),
 (159,⟨.func #[3,40,42] #[] false,1,8,.nilFunc,[.nilf]⟩)]
def tabC10:List (Nat×TI):=[(160,⟨.func #[5] #[42] false,1,8,.nilFunc,[.nilf]⟩),
 (161,⟨.func #[4] #[42] false,1,8,.nilFunc,[.nilf]⟩),
 (163,⟨.func #[2] #[2,45] false,1,8,.nilFunc,[.nilf]⟩),
 (164,⟨.func #[2,45] #[42] false,1,8,.nilFunc,[.nilf]⟩),
 (165,⟨.func #[3] #[39] false,1,8,.nilFunc,[.nilf]⟩),
 (166,⟨.func #[2,2] #[2,45] false,1,8,.nilFunc,[.nilf]⟩),
 (167,⟨.func #[5] #[166] false,1,8,.nilFunc,[.nilf]⟩),
 (168,⟨.func #[39] #[39] false,1,8,.nilFunc,[.nilf]⟩),
 (169,⟨.func #[39] #[] false,1,8,.nilFunc,[.nilf]⟩),
 (170,⟨.func #[69,3] #[40] false,1,8,.nilFunc,[.nilf]⟩),
 (171,⟨.func #[3,40] #[69] false,1,8,.nilFunc,[.nilf]⟩),
 (172,⟨.func #[42] #[3] false,1,8,.nilFunc,[.nilf]⟩),
 (173,⟨.func #[3] #[42] false,1,8,.nilFunc,[.nilf]⟩),
 (174,⟨.func #[3,42] #[] false,1,8,.nilFunc,[.nilf]⟩),
 (175,⟨.func #[] #[42] false,1,8,.nilFunc,[.nilf]⟩)]
def tabC11:List (Nat×TI):=[(176,⟨.func #[69,80,5] #[3] false,1,8,.nilFunc,[.nilf]⟩),
 (177,⟨.func #[3] #[42,4] false,1,8,.nilFunc,[.nilf]⟩),
 (178,⟨.func #[3] #[3,45] false,1,8,.nilFunc,[.nilf]⟩),
 (179,⟨.func #[3,69] #[4] false,1,8,.nilFunc,[.nilf]⟩),
 (180,⟨.func #[52] #[] false,1,8,.nilFunc,[.nilf]⟩),
 (181,⟨.func #[52] #[] false,1,8,.nilFunc,[.nilf]⟩),
 (182,⟨.func #[3] #[181] false,1,8,.nilFunc,[.nilf]⟩),
 (183,⟨.slice 40,1,24,.slice none 0 0,[.nils false 1]⟩),
 (184,⟨.struct #[⟨"parent",3,0,false, "", "weftway/threads",0⟩,⟨"ended",4,1,false, "", "weftway/threads",8⟩,⟨"panicked",4,2,false, "", "weftway/threads",9⟩,⟨"scopes",183,3,false, "", "weftway/threads",16⟩],4,40,.agg #[.int .i64 0,.bool false,.bool false,.slice none 0 0],[.d (.int .i64 0),.d (.bool false),.d (.bool false),.nils false 1]⟩),
 (185,⟨.struct #[⟨"parent",3,0,false, "", "weftway/threads",0⟩,⟨"ended",4,1,false, "", "weftway/threads",8⟩,⟨"panicked",4,2,false, "", "weftway/threads",9⟩,⟨"scopes",183,3,false, "", "weftway/threads",16⟩],4,40,.agg #[.int .i64 0,.bool false,.bool false,.slice none 0 0],[.d (.int .i64 0),.d (.bool false),.d (.bool false),.nils false 1]⟩),
 (186,⟨.slice 185,1,24,.slice none 0 0,[.nils true 4]⟩),
 (187,⟨.struct #[⟨"l",186,0,false, "", "weftway/threads",0⟩],1,24,.agg #[.slice none 0 0],[.nils true 4]⟩),
 (188,⟨.struct #[⟨"l",186,0,false, "", "weftway/threads",0⟩],1,24,.agg #[.slice none 0 0],[.nils true 4]⟩),
 (189,⟨.func #[3] #[42,5] false,1,8,.nilFunc,[.nilf]⟩),
 (190,⟨.map 194 3,1,8,.map none,[.nilm]⟩),
 (191,⟨.struct #[⟨"m",190,0,false, "", "weftway/counts",0⟩],1,8,.agg #[.map none],[.nilm]⟩)]
def tabC12:List (Nat×TI):=[(192,⟨.struct #[⟨"m",190,0,false, "", "weftway/counts",0⟩],1,8,.agg #[.map none],[.nilm]⟩),
 (193,⟨.struct #[⟨"id",3,0,false, "", "weftway/counts",0⟩,⟨"end",3,1,false, "", "weftway/counts",8⟩],2,16,.agg #[.int .i64 0,.int .i64 0],[.d (.int .i64 0),.d (.int .i64 0)]⟩),
 (194,⟨.struct #[⟨"id",3,0,false, "", "weftway/counts",0⟩,⟨"end",3,1,false, "", "weftway/counts",8⟩],2,16,.agg #[.int .i64 0,.int .i64 0],[.d (.int .i64 0),.d (.int .i64 0)]⟩),
 (195,⟨.pointer 199,1,8,.pointer none,[.nilp]⟩),
 (196,⟨.func #[3] #[195] false,1,8,.nilFunc,[.nilf]⟩),
 (197,⟨.array 8 42,48,704,.agg #[.int .u8 0,.int .i64 0,.string ByteArray.empty,.slice none 0 0,.int .i64 0,.slice none 0 0,.int .u8 0,.int .i64 0,.string ByteArray.empty,.slice none 0 0,.int .i64 0,.slice none 0 0,.int .u8 0,.int .i64 0,.string ByteArray.empty,.slice none 0 0,.int .i64 0,.slice none 0 0,.int .u8 0,.int .i64 0,.string ByteArray.empty,.slice none 0 0,.int .i64 0,.slice none 0 0,.int .u8 0,.int .i64 0,.string ByteArray.empty,.slice none 0 0,.int .i64 0,.slice none 0 0,.int .u8 0,.int .i64 0,.string ByteArray.empty,.slice none 0 0,.int .i64 0,.slice none 0 0,.int .u8 0,.int .i64 0,.string ByteArray.empty,.slice none 0 0,.int .i64 0,.slice none 0 0,.int .u8 0,.int .i64 0,.string ByteArray.empty,.slice none 0 0,.int .i64 0,.slice none 0 0],[.d (.int .u8 0),.d (.int .i64 0),.d (.str ByteArray.empty),.nils true 6,.d (.int .i64 0),.nils false 1,.d (.int .u8 0),.d (.int .i64 0),.d (.str ByteArray.empty),.nils true 6,.d (.int .i64 0),.nils false 1,.d (.int .u8 0),.d (.int .i64 0),.d (.str ByteArray.empty),.nils true 6,.d (.int .i64 0),.nils false 1,.d (.int .u8 0),.d (.int .i64 0),.d (.str ByteArray.empty),.nils true 6,.d (.int .i64 0),.nils false 1,.d (.int .u8 0),.d (.int .i64 0),.d (.str ByteArray.empty),.nils true 6,.d (.int .i64 0),.nils false 1,.d (.int .u8 0),.d (.int .i64 0),.d (.str ByteArray.empty),.nils true 6,.d (.int .i64 0),.nils false 1,.d (.int .u8 0),.d (.int .i64 0),.d (.str ByteArray.empty),.nils true 6,.d (.int .i64 0),.nils false 1,.d (.int .u8 0),.d (.int .i64 0),.d (.str ByteArray.empty),.nils true 6,.d (.int .i64 0),.nils false 1]⟩),
 (198,⟨.struct #[⟨"room",3,0,false, "", "weftway/queues",0⟩,⟨"first",3,1,false, "", "weftway/queues",8⟩,⟨"n",3,2,false, "", "weftway/queues",16⟩,⟨"l",197,3,false, "", "weftway/queues",24⟩],51,728,.agg #[.int .i64 0,.int .i64 0,.int .i64 0,.int .u8 0,.int .i64 0,.string ByteArray.empty,.slice none 0 0,.int .i64 0,.slice none 0 0,.int .u8 0,.int .i64 0,.string ByteArray.empty,.slice none 0 0,.int .i64 0,.slice none 0 0,.int .u8 0,.int .i64 0,.string ByteArray.empty,.slice none 0 0,.int .i64 0,.slice none 0 0,.int .u8 0,.int .i64 0,.string ByteArray.empty,.slice none 0 0,.int .i64 0,.slice none 0 0,.int .u8 0,.int .i64 0,.string ByteArray.empty,.slice none 0 0,.int .i64 0,.slice none 0 0,.int .u8 0,.int .i64 0,.string ByteArray.empty,.slice none 0 0,.int .i64 0,.slice none 0 0,.int .u8 0,.int .i64 0,.string ByteArray.empty,.slice none 0 0,.int .i64 0,.slice none 0 0,.int .u8 0,.int .i64 0,.string ByteArray.empty,.slice none 0 0,.int .i64 0,.slice none 0 0],[.d (.int .i64 0),.d (.int .i64 0),.d (.int .i64 0),.d (.int .u8 0),.d (.int .i64 0),.d (.str ByteArray.empty),.nils true 6,.d (.int .i64 0),.nils false 1,.d (.int .u8 0),.d (.int .i64 0),.d (.str ByteArray.empty),.nils true 6,.d (.int .i64 0),.nils false 1,.d (.int .u8 0),.d (.int .i64 0),.d (.str ByteArray.empty),.nils true 6,.d (.int .i64 0),.nils false 1,.d (.int .u8 0),.d (.int .i64 0),.d (.str ByteArray.empty),.nils true 6,.d (.int .i64 0),.nils false 1,.d (.int .u8 0),.d (.int .i64 0),.d (.str ByteArray.empty),.nils true 6,.d (.int .i64 0),.nils false 1,.d (.int .u8 0),.d (.int .i64 0),.d (.str ByteArray.empty),.nils true 6,.d (.int .i64 0),.nils false 1,.d (.int .u8 0),.d (.int .i64 0),.d (.str ByteArray.empty),.nils true 6,.d (.int .i64 0),.nils false 1,.d (.int .u8 0),.d (.int .i64 0),.d (.str ByteArray.empty),.nils true 6,.d (.int .i64 0),.nils false 1]⟩),
 (199,⟨.struct #[⟨"room",3,0,false, "", "weftway/queues",0⟩,⟨"first",3,1,false, "", "weftway/queues",8⟩,⟨"n",3,2,false, "", "weftway/queues",16⟩,⟨"l",197,3,false, "", "weftway/queues",24⟩],51,728,.agg #[.int .i64 0,.int .i64 0,.int .i64 0,.int .u8 0,.int .i64 0,.string ByteArray.empty,.slice none 0 0,.int .i64 0,.slice none 0 0,.int .u8 0,.int .i64 0,.string ByteArray.empty,.slice none 0 0,.int .i64 0,.slice none 0 0,.int .u8 0,.int .i64 0,.string ByteArray.empty,.slice none 0 0,.int .i64 0,.slice none 0 0,.int .u8 0,.int .i64 0,.string ByteArray.empty,.slice none 0 0,.int .i64 0,.slice none 0 0,.int .u8 0,.int .i64 0,.string ByteArray.empty,.slice none 0 0,.int .i64 0,.slice none 0 0,.int .u8 0,.int .i64 0,.string ByteArray.empty,.slice none 0 0,.int .i64 0,.slice none 0 0,.int .u8 0,.int .i64 0,.string ByteArray.empty,.slice none 0 0,.int .i64 0,.slice none 0 0,.int .u8 0,.int .i64 0,.string ByteArray.empty,.slice none 0 0,.int .i64 0,.slice none 0 0],[.d (.int .i64 0),.d (.int .i64 0),.d (.int .i64 0),.d (.int .u8 0),.d (.int .i64 0),.d (.str ByteArray.empty),.nils true 6,.d (.int .i64 0),.nils false 1,.d (.int .u8 0),.d (.int .i64 0),.d (.str ByteArray.empty),.nils true 6,.d (.int .i64 0),.nils false 1,.d (.int .u8 0),.d (.int .i64 0),.d (.str ByteArray.empty),.nils true 6,.d (.int .i64 0),.nils false 1,.d (.int .u8 0),.d (.int .i64 0),.d (.str ByteArray.empty),.nils true 6,.d (.int .i64 0),.nils false 1,.d (.int .u8 0),.d (.int .i64 0),.d (.str ByteArray.empty),.nils true 6,.d (.int .i64 0),.nils false 1,.d (.int .u8 0),.d (.int .i64 0),.d (.str ByteArray.empty),.nils true 6,.d (.int .i64 0),.nils false 1,.d (.int .u8 0),.d (.int .i64 0),.d (.str ByteArray.empty),.nils true 6,.d (.int .i64 0),.nils false 1,.d (.int .u8 0),.d (.int .i64 0),.d (.str ByteArray.empty),.nils true 6,.d (.int .i64 0),.nils false 1]⟩),
 (200,⟨.struct #[⟨"holder",3,0,false, "", "weftway/locks",0⟩,⟨"poisoned",4,1,false, "", "weftway/locks",8⟩],2,16,.agg #[.int .i64 0,.bool false],[.d (.int .i64 0),.d (.bool false)]⟩),
 (201,⟨.struct #[⟨"holder",3,0,false, "", "weftway/locks",0⟩,⟨"poisoned",4,1,false, "", "weftway/locks",8⟩],2,16,.agg #[.int .i64 0,.bool false],[.d (.int .i64 0),.d (.bool false)]⟩),
 (203,⟨.func #[3] #[201,4] false,1,8,.nilFunc,[.nilf]⟩),
 (204,⟨.func #[26] #[45] false,1,8,.nilFunc,[.nilf]⟩),
 (205,⟨.func #[26] #[26] false,1,8,.nilFunc,[.nilf]⟩),
 (206,⟨.func #[] #[27] false,1,8,.nilFunc,[.nilf]⟩),
 (207,⟨.func #[] #[28] false,1,8,.nilFunc,[.nilf]⟩)]
def tabC13:List (Nat×TI):=[(208,⟨.func #[] #[29] false,1,8,.nilFunc,[.nilf]⟩),
 (209,⟨.func #[] #[30] false,1,8,.nilFunc,[.nilf]⟩),
 (210,⟨.func #[] #[31] false,1,8,.nilFunc,[.nilf]⟩),
 (211,⟨.array 24 5,24,24,.agg #[.int .u8 0,.int .u8 0,.int .u8 0,.int .u8 0,.int .u8 0,.int .u8 0,.int .u8 0,.int .u8 0,.int .u8 0,.int .u8 0,.int .u8 0,.int .u8 0,.int .u8 0,.int .u8 0,.int .u8 0,.int .u8 0,.int .u8 0,.int .u8 0,.int .u8 0,.int .u8 0,.int .u8 0,.int .u8 0,.int .u8 0,.int .u8 0],[.d (.int .u8 0),.d (.int .u8 0),.d (.int .u8 0),.d (.int .u8 0),.d (.int .u8 0),.d (.int .u8 0),.d (.int .u8 0),.d (.int .u8 0),.d (.int .u8 0),.d (.int .u8 0),.d (.int .u8 0),.d (.int .u8 0),.d (.int .u8 0),.d (.int .u8 0),.d (.int .u8 0),.d (.int .u8 0),.d (.int .u8 0),.d (.int .u8 0),.d (.int .u8 0),.d (.int .u8 0),.d (.int .u8 0),.d (.int .u8 0),.d (.int .u8 0),.d (.int .u8 0)]⟩),
 (212,⟨.int .u64,1,8,.int .u64 0,[.d (.int .u64 0)]⟩),
 (213,⟨.func #[212] #[3] false,1,8,.nilFunc,[.nilf]⟩),
 (214,⟨.func #[128,212] #[] false,1,8,.nilFunc,[.nilf]⟩),
 (216,⟨.func #[128,212,3,4,4] #[128,9] false,1,8,.nilFunc,[.nilf]⟩),
 (217,⟨.pointer 5,1,8,.pointer none,[.nilp]⟩),
 (218,⟨.func #[3,3] #[45] false,1,8,.nilFunc,[.nilf]⟩),
 (219,⟨.map 3 201,1,8,.map none,[.nilm]⟩),
 (220,⟨.struct #[⟨"m",219,0,false, "", "weftway/locks",0⟩],1,8,.agg #[.map none],[.nilm]⟩),
 (221,⟨.struct #[⟨"m",219,0,false, "", "weftway/locks",0⟩],1,8,.agg #[.map none],[.nilm]⟩),
 (222,⟨.func #[181] #[40] false,1,8,.nilFunc,[.nilf]⟩),
 (223,⟨.func #[42,40] #[42,5] false,1,8,.nilFunc,[.nilf]⟩)]
def tabC14:List (Nat×TI):=[(225,⟨.func #[3,3] #[3,4] false,1,8,.nilFunc,[.nilf]⟩),
 (226,⟨.struct #[⟨"v",42,0,false, "", "weftway/heap",0⟩,⟨"freed",4,6,false, "", "weftway/heap",88⟩],7,96,.agg #[.int .u8 0,.int .i64 0,.string ByteArray.empty,.slice none 0 0,.int .i64 0,.slice none 0 0,.bool false],[.d (.int .u8 0),.d (.int .i64 0),.d (.str ByteArray.empty),.nils true 6,.d (.int .i64 0),.nils false 1,.d (.bool false)]⟩),
 (227,⟨.struct #[⟨"v",42,0,false, "", "weftway/heap",0⟩,⟨"freed",4,6,false, "", "weftway/heap",88⟩],7,96,.agg #[.int .u8 0,.int .i64 0,.string ByteArray.empty,.slice none 0 0,.int .i64 0,.slice none 0 0,.bool false],[.d (.int .u8 0),.d (.int .i64 0),.d (.str ByteArray.empty),.nils true 6,.d (.int .i64 0),.nils false 1,.d (.bool false)]⟩),
 (228,⟨.func #[26,9,9] #[3,4] false,1,8,.nilFunc,[.nilf]⟩),
 (229,⟨.func #[3,40,42] #[42,5] false,1,8,.nilFunc,[.nilf]⟩),
 (230,⟨.func #[3,40,42] #[5] false,1,8,.nilFunc,[.nilf]⟩),
 (231,⟨.func #[2,2,232] #[2,45] false,1,8,.nilFunc,[.nilf]⟩),
 (232,⟨.func #[235,235] #[235,4] false,1,8,.nilFunc,[.nilf]⟩),
 (233,⟨.func #[235] #[235,4] false,1,8,.nilFunc,[.nilf]⟩),
 (234,⟨.struct #[⟨"lower",4,0,false, "", "weftway/num",0⟩,⟨"size",212,1,false, "", "weftway/num",8⟩],2,16,.agg #[.bool false,.int .u64 0],[.d (.bool false),.d (.int .u64 0)]⟩),
 (235,⟨.struct #[⟨"lower",4,0,false, "", "weftway/num",0⟩,⟨"size",212,1,false, "", "weftway/num",8⟩],2,16,.agg #[.bool false,.int .u64 0],[.d (.bool false),.d (.int .u64 0)]⟩),
 (236,⟨.map 5 166,1,8,.map none,[.nilm]⟩),
 (237,⟨.map 3 195,1,8,.map none,[.nilm]⟩),
 (238,⟨.struct #[⟨"m",237,0,false, "", "weftway/queues",0⟩],1,8,.agg #[.map none],[.nilm]⟩),
 (239,⟨.struct #[⟨"m",237,0,false, "", "weftway/queues",0⟩],1,8,.agg #[.map none],[.nilm]⟩)]
def tabC15:List (Nat×TI):=[(241,⟨.func #[24] #[4] false,1,8,.nilFunc,[.nilf]⟩),
 (242,⟨.func #[9] #[4] false,1,8,.nilFunc,[.nilf]⟩),
 (243,⟨.func #[26,3,80] #[45] false,1,8,.nilFunc,[.nilf]⟩),
 (244,⟨.func #[78] #[78] false,1,8,.nilFunc,[.nilf]⟩),
 (245,⟨.slice 259,1,24,.slice none 0 0,[.nils true 4]⟩),
 (246,⟨.slice 248,1,24,.slice none 0 0,[.nils true 3]⟩),
 (247,⟨.struct #[⟨"Kind",5,0,false, "", "",0⟩,⟨"Name",9,1,false, "", "",8⟩,⟨"Args",246,2,false, "", "",24⟩],3,48,.agg #[.int .u8 0,.string ByteArray.empty,.slice none 0 0],[.d (.int .u8 0),.d (.str ByteArray.empty),.nils true 3]⟩),
 (248,⟨.struct #[⟨"Kind",5,0,false, "", "",0⟩,⟨"Name",9,1,false, "", "",8⟩,⟨"Args",246,2,false, "", "",24⟩],3,48,.agg #[.int .u8 0,.string ByteArray.empty,.slice none 0 0],[.d (.int .u8 0),.d (.str ByteArray.empty),.nils true 3]⟩),
 (249,⟨.slice 320,1,24,.slice none 0 0,[.nils true 15]⟩),
 (250,⟨.struct #[⟨"Name",9,0,false, "", "",0⟩,⟨"Path",78,1,false, "", "",16⟩],2,40,.agg #[.string ByteArray.empty,.slice none 0 0],[.d (.str ByteArray.empty),.nils false 1]⟩),
 (251,⟨.struct #[⟨"Name",9,0,false, "", "",0⟩,⟨"Path",78,1,false, "", "",16⟩],2,40,.agg #[.string ByteArray.empty,.slice none 0 0],[.d (.str ByteArray.empty),.nils false 1]⟩),
 (252,⟨.slice 254,1,24,.slice none 0 0,[.nils true 8]⟩),
 (253,⟨.struct #[⟨"Op",5,0,false, "", "",0⟩,⟨"Int",2,1,false, "", "",8⟩,⟨"Name",9,2,false, "", "",16⟩,⟨"Second",9,3,false, "", "",32⟩,⟨"Place",251,4,false, "", "",48⟩,⟨"Args",252,6,false, "", "",88⟩,⟨"At",3,7,false, "", "",112⟩],8,120,.agg #[.int .u8 0,.int .i64 0,.string ByteArray.empty,.string ByteArray.empty,.string ByteArray.empty,.slice none 0 0,.slice none 0 0,.int .i64 0],[.d (.int .u8 0),.d (.int .i64 0),.d (.str ByteArray.empty),.d (.str ByteArray.empty),.d (.str ByteArray.empty),.nils false 1,.nils true 8,.d (.int .i64 0)]⟩),
 (254,⟨.struct #[⟨"Op",5,0,false, "", "",0⟩,⟨"Int",2,1,false, "", "",8⟩,⟨"Name",9,2,false, "", "",16⟩,⟨"Second",9,3,false, "", "",32⟩,⟨"Place",251,4,false, "", "",48⟩,⟨"Args",252,6,false, "", "",88⟩,⟨"At",3,7,false, "", "",112⟩],8,120,.agg #[.int .u8 0,.int .i64 0,.string ByteArray.empty,.string ByteArray.empty,.string ByteArray.empty,.slice none 0 0,.slice none 0 0,.int .i64 0],[.d (.int .u8 0),.d (.int .i64 0),.d (.str ByteArray.empty),.d (.str ByteArray.empty),.d (.str ByteArray.empty),.nils false 1,.nils true 8,.d (.int .i64 0)]⟩),
 (255,⟨.struct #[⟨"Kind",5,0,false, "", "",0⟩,⟨"Name",9,1,false, "", "",8⟩,⟨"Fields",245,2,false, "", "",24⟩,⟨"Result",248,3,false, "", "",48⟩,⟨"Body",249,6,false, "", "",96⟩,⟨"Return",254,7,false, "", "",120⟩,⟨"At",3,15,false, "", "",240⟩],16,248,.agg #[.int .u8 0,.string ByteArray.empty,.slice none 0 0,.int .u8 0,.string ByteArray.empty,.slice none 0 0,.slice none 0 0,.int .u8 0,.int .i64 0,.string ByteArray.empty,.string ByteArray.empty,.string ByteArray.empty,.slice none 0 0,.slice none 0 0,.int .i64 0,.int .i64 0],[.d (.int .u8 0),.d (.str ByteArray.empty),.nils true 4,.d (.int .u8 0),.d (.str ByteArray.empty),.nils true 3,.nils true 15,.d (.int .u8 0),.d (.int .i64 0),.d (.str ByteArray.empty),.d (.str ByteArray.empty),.d (.str ByteArray.empty),.nils false 1,.nils true 8,.d (.int .i64 0),.d (.int .i64 0)]⟩)]
def tabC16:List (Nat×TI):=[(256,⟨.struct #[⟨"Kind",5,0,false, "", "",0⟩,⟨"Name",9,1,false, "", "",8⟩,⟨"Fields",245,2,false, "", "",24⟩,⟨"Result",248,3,false, "", "",48⟩,⟨"Body",249,6,false, "", "",96⟩,⟨"Return",254,7,false, "", "",120⟩,⟨"At",3,15,false, "", "",240⟩],16,248,.agg #[.int .u8 0,.string ByteArray.empty,.slice none 0 0,.int .u8 0,.string ByteArray.empty,.slice none 0 0,.slice none 0 0,.int .u8 0,.int .i64 0,.string ByteArray.empty,.string ByteArray.empty,.string ByteArray.empty,.slice none 0 0,.slice none 0 0,.int .i64 0,.int .i64 0],[.d (.int .u8 0),.d (.str ByteArray.empty),.nils true 4,.d (.int .u8 0),.d (.str ByteArray.empty),.nils true 3,.nils true 15,.d (.int .u8 0),.d (.int .i64 0),.d (.str ByteArray.empty),.d (.str ByteArray.empty),.d (.str ByteArray.empty),.nils false 1,.nils true 8,.d (.int .i64 0),.d (.int .i64 0)]⟩),
 (257,⟨.func #[245] #[245] false,1,8,.nilFunc,[.nilf]⟩),
 (258,⟨.struct #[⟨"Name",9,0,false, "", "",0⟩,⟨"Type",248,1,false, "", "",16⟩],4,64,.agg #[.string ByteArray.empty,.int .u8 0,.string ByteArray.empty,.slice none 0 0],[.d (.str ByteArray.empty),.d (.int .u8 0),.d (.str ByteArray.empty),.nils true 3]⟩),
 (259,⟨.struct #[⟨"Name",9,0,false, "", "",0⟩,⟨"Type",248,1,false, "", "",16⟩],4,64,.agg #[.string ByteArray.empty,.int .u8 0,.string ByteArray.empty,.slice none 0 0],[.d (.str ByteArray.empty),.d (.int .u8 0),.d (.str ByteArray.empty),.nils true 3]⟩),
 (260,⟨.func #[4] #[3] false,1,8,.nilFunc,[.nilf]⟩),
 (261,⟨.array 20 212,20,160,.agg #[.int .u64 0,.int .u64 0,.int .u64 0,.int .u64 0,.int .u64 0,.int .u64 0,.int .u64 0,.int .u64 0,.int .u64 0,.int .u64 0,.int .u64 0,.int .u64 0,.int .u64 0,.int .u64 0,.int .u64 0,.int .u64 0,.int .u64 0,.int .u64 0,.int .u64 0,.int .u64 0],[.d (.int .u64 0),.d (.int .u64 0),.d (.int .u64 0),.d (.int .u64 0),.d (.int .u64 0),.d (.int .u64 0),.d (.int .u64 0),.d (.int .u64 0),.d (.int .u64 0),.d (.int .u64 0),.d (.int .u64 0),.d (.int .u64 0),.d (.int .u64 0),.d (.int .u64 0),.d (.int .u64 0),.d (.int .u64 0),.d (.int .u64 0),.d (.int .u64 0),.d (.int .u64 0),.d (.int .u64 0)]⟩),
 (262,⟨.int .u32,1,4,.int .u32 0,[.d (.int .u32 0)]⟩),
 (264,⟨.int .u64,1,8,.int .u64 0,[.d (.int .u64 0)]⟩),
 (265,⟨.func #[264] #[3] false,1,8,.nilFunc,[.nilf]⟩),
 (267,⟨.func #[266] #[266] false,1,8,.nilFunc,[.nilf]⟩),
 (268,⟨.func #[3] #[128] false,1,8,.nilFunc,[.nilf]⟩),
 (269,⟨.func #[40,181] #[40] false,1,8,.nilFunc,[.nilf]⟩),
 (270,⟨.func #[42,3] #[5] false,1,8,.nilFunc,[.nilf]⟩),
 (271,⟨.func #[158] #[] false,1,8,.nilFunc,[.nilf]⟩)]
def tabC17:List (Nat×TI):=[(272,⟨.func #[158] #[] false,1,8,.nilFunc,[.nilf]⟩),
 (273,⟨.func #[] #[272] false,1,8,.nilFunc,[.nilf]⟩),
 (274,⟨.func #[245,275] #[3] false,1,8,.nilFunc,[.nilf]⟩),
 (275,⟨.func #[259] #[4] false,1,8,.nilFunc,[.nilf]⟩),
 (276,⟨.func #[3,278] #[5] false,1,8,.nilFunc,[.nilf]⟩),
 (277,⟨.func #[42,40,42] #[42,5] false,1,8,.nilFunc,[.nilf]⟩),
 (278,⟨.func #[42] #[42,5] false,1,8,.nilFunc,[.nilf]⟩),
 (280,⟨.func #[2] #[235] false,1,8,.nilFunc,[.nilf]⟩),
 (281,⟨.func #[4] #[2,45] false,1,8,.nilFunc,[.nilf]⟩),
 (282,⟨.func #[] #[235] false,1,8,.nilFunc,[.nilf]⟩),
 (283,⟨.func #[256] #[4] false,1,8,.nilFunc,[.nilf]⟩),
 (284,⟨.func #[24,283] #[4] false,1,8,.nilFunc,[.nilf]⟩),
 (285,⟨.struct #[⟨"text",9,0,false, "", "weftway/code",0⟩,⟨"a",3,1,false, "", "weftway/code",16⟩,⟨"b",3,2,false, "", "weftway/code",24⟩,⟨"path",4,3,false, "", "weftway/code",32⟩,⟨"slots",4,4,false, "", "weftway/code",33⟩,⟨"wide",4,5,false, "", "weftway/code",34⟩,⟨"name",4,6,false, "", "weftway/code",35⟩,⟨"kinds",40,7,false, "", "weftway/code",40⟩],8,64,.agg #[.string ByteArray.empty,.int .i64 0,.int .i64 0,.bool false,.bool false,.bool false,.bool false,.slice none 0 0],[.d (.str ByteArray.empty),.d (.int .i64 0),.d (.int .i64 0),.d (.bool false),.d (.bool false),.d (.bool false),.d (.bool false),.nils false 1]⟩),
 (286,⟨.struct #[⟨"text",9,0,false, "", "weftway/code",0⟩,⟨"a",3,1,false, "", "weftway/code",16⟩,⟨"b",3,2,false, "", "weftway/code",24⟩,⟨"path",4,3,false, "", "weftway/code",32⟩,⟨"slots",4,4,false, "", "weftway/code",33⟩,⟨"wide",4,5,false, "", "weftway/code",34⟩,⟨"name",4,6,false, "", "weftway/code",35⟩,⟨"kinds",40,7,false, "", "weftway/code",40⟩],8,64,.agg #[.string ByteArray.empty,.int .i64 0,.int .i64 0,.bool false,.bool false,.bool false,.bool false,.slice none 0 0],[.d (.str ByteArray.empty),.d (.int .i64 0),.d (.int .i64 0),.d (.bool false),.d (.bool false),.d (.bool false),.d (.bool false),.nils false 1]⟩)]
def tabC18:List (Nat×TI):=[(288,⟨.func #[5] #[286,4] false,1,8,.nilFunc,[.nilf]⟩),
 (289,⟨.func #[286,80] #[4] false,1,8,.nilFunc,[.nilf]⟩),
 (290,⟨.func #[78,242] #[4] false,1,8,.nilFunc,[.nilf]⟩),
 (291,⟨.func #[40,52] #[4] false,1,8,.nilFunc,[.nilf]⟩),
 (292,⟨.func #[26,73,286,80,3,3] #[4] false,1,8,.nilFunc,[.nilf]⟩),
 (293,⟨.func #[262] #[3] false,1,8,.nilFunc,[.nilf]⟩),
 (294,⟨.func #[42,40] #[42] false,1,8,.nilFunc,[.nilf]⟩),
 (296,⟨.func #[212,212,212] #[212,212] false,1,8,.nilFunc,[.nilf]⟩),
 (297,⟨.func #[212,212] #[212,212] false,1,8,.nilFunc,[.nilf]⟩),
 (298,⟨.func #[24,283] #[3] false,1,8,.nilFunc,[.nilf]⟩),
 (299,⟨.array 35 286,280,2240,.agg #[.string ByteArray.empty,.int .i64 0,.int .i64 0,.bool false,.bool false,.bool false,.bool false,.slice none 0 0,.string ByteArray.empty,.int .i64 0,.int .i64 0,.bool false,.bool false,.bool false,.bool false,.slice none 0 0,.string ByteArray.empty,.int .i64 0,.int .i64 0,.bool false,.bool false,.bool false,.bool false,.slice none 0 0,.string ByteArray.empty,.int .i64 0,.int .i64 0,.bool false,.bool false,.bool false,.bool false,.slice none 0 0,.string ByteArray.empty,.int .i64 0,.int .i64 0,.bool false,.bool false,.bool false,.bool false,.slice none 0 0,.string ByteArray.empty,.int .i64 0,.int .i64 0,.bool false,.bool false,.bool false,.bool false,.slice none 0 0,.string ByteArray.empty,.int .i64 0,.int .i64 0,.bool false,.bool false,.bool false,.bool false,.slice none 0 0,.string ByteArray.empty,.int .i64 0,.int .i64 0,.bool false,.bool false,.bool false,.bool false,.slice none 0 0,.string ByteArray.empty,.int .i64 0,.int .i64 0,.bool false,.bool false,.bool false,.bool false,.slice none 0 0,.string ByteArray.empty,.int .i64 0,.int .i64 0,.bool false,.bool false,.bool false,.bool false,.slice none 0 0,.string ByteArray.empty,.int .i64 0,.int .i64 0,.bool false,.bool false,.bool false,.bool false,.slice none 0 0,.string ByteArray.empty,.int .i64 0,.int .i64 0,.bool false,.bool false,.bool false,.bool false,.slice none 0 0,.string ByteArray.empty,.int .i64 0,.int .i64 0,.bool false,.bool false,.bool false,.bool false,.slice none 0 0,.string ByteArray.empty,.int .i64 0,.int .i64 0,.bool false,.bool false,.bool false,.bool false,.slice none 0 0,.string ByteArray.empty,.int .i64 0,.int .i64 0,.bool false,.bool false,.bool false,.bool false,.slice none 0 0,.string ByteArray.empty,.int .i64 0,.int .i64 0,.bool false,.bool false,.bool false,.bool false,.slice none 0 0,.string ByteArray.empty,.int .i64 0,.int .i64 0,.bool false,.bool false,.bool false,.bool false,.slice none 0 0,.string ByteArray.empty,.int .i64 0,.int .i64 0,.bool false,.bool false,.bool false,.bool false,.slice none 0 0,.string ByteArray.empty,.int .i64 0,.int .i64 0,.bool false,.bool false,.bool false,.bool false,.slice none 0 0,.string ByteArray.empty,.int .i64 0,.int .i64 0,.bool false,.bool false,.bool false,.bool false,.slice none 0 0,.string ByteArray.empty,.int .i64 0,.int .i64 0,.bool false,.bool false,.bool false,.bool false,.slice none 0 0,.string ByteArray.empty,.int .i64 0,.int .i64 0,.bool false,.bool false,.bool false,.bool false,.slice none 0 0,.string ByteArray.empty,.int .i64 0,.int .i64 0,.bool false,.bool false,.bool false,.bool false,.slice none 0 0,.string ByteArray.empty,.int .i64 0,.int .i64 0,.bool false,.bool false,.bool false,.bool false,.slice none 0 0,.string ByteArray.empty,.int .i64 0,.int .i64 0,.bool false,.bool false,.bool false,.bool false,.slice none 0 0,.string ByteArray.empty,.int .i64 0,.int .i64 0,.bool false,.bool false,.bool false,.bool false,.slice none 0 0,.string ByteArray.empty,.int .i64 0,.int .i64 0,.bool false,.bool false,.bool false,.bool false,.slice none 0 0,.string ByteArray.empty,.int .i64 0,.int .i64 0,.bool false,.bool false,.bool false,.bool false,.slice none 0 0,.string ByteArray.empty,.int .i64 0,.int .i64 0,.bool false,.bool false,.bool false,.bool false,.slice none 0 0,.string ByteArray.empty,.int .i64 0,.int .i64 0,.bool false,.bool false,.bool false,.bool false,.slice none 0 0,.string ByteArray.empty,.int .i64 0,.int .i64 0,.bool false,.bool false,.bool false,.bool false,.slice none 0 0,.string ByteArray.empty,.int .i64 0,.int .i64 0,.bool false,.bool false,.bool false,.bool false,.slice none 0 0,.string ByteArray.empty,.int .i64 0,.int .i64 0,.bool false,.bool false,.bool false,.bool false,.slice none 0 0,.string ByteArray.empty,.int .i64 0,.int .i64 0,.bool false,.bool false,.bool false,.bool false,.slice none 0 0,.string ByteArray.empty,.int .i64 0,.int .i64 0,.bool false,.bool false,.bool false,.bool false,.slice none 0 0],[.d (.str ByteArray.empty),.d (.int .i64 0),.d (.int .i64 0),.d (.bool false),.d (.bool false),.d (.bool false),.d (.bool false),.nils false 1,.d (.str ByteArray.empty),.d (.int .i64 0),.d (.int .i64 0),.d (.bool false),.d (.bool false),.d (.bool false),.d (.bool false),.nils false 1,.d (.str ByteArray.empty),.d (.int .i64 0),.d (.int .i64 0),.d (.bool false),.d (.bool false),.d (.bool false),.d (.bool false),.nils false 1,.d (.str ByteArray.empty),.d (.int .i64 0),.d (.int .i64 0),.d (.bool false),.d (.bool false),.d (.bool false),.d (.bool false),.nils false 1,.d (.str ByteArray.empty),.d (.int .i64 0),.d (.int .i64 0),.d (.bool false),.d (.bool false),.d (.bool false),.d (.bool false),.nils false 1,.d (.str ByteArray.empty),.d (.int .i64 0),.d (.int .i64 0),.d (.bool false),.d (.bool false),.d (.bool false),.d (.bool false),.nils false 1,.d (.str ByteArray.empty),.d (.int .i64 0),.d (.int .i64 0),.d (.bool false),.d (.bool false),.d (.bool false),.d (.bool false),.nils false 1,.d (.str ByteArray.empty),.d (.int .i64 0),.d (.int .i64 0),.d (.bool false),.d (.bool false),.d (.bool false),.d (.bool false),.nils false 1,.d (.str ByteArray.empty),.d (.int .i64 0),.d (.int .i64 0),.d (.bool false),.d (.bool false),.d (.bool false),.d (.bool false),.nils false 1,.d (.str ByteArray.empty),.d (.int .i64 0),.d (.int .i64 0),.d (.bool false),.d (.bool false),.d (.bool false),.d (.bool false),.nils false 1,.d (.str ByteArray.empty),.d (.int .i64 0),.d (.int .i64 0),.d (.bool false),.d (.bool false),.d (.bool false),.d (.bool false),.nils false 1,.d (.str ByteArray.empty),.d (.int .i64 0),.d (.int .i64 0),.d (.bool false),.d (.bool false),.d (.bool false),.d (.bool false),.nils false 1,.d (.str ByteArray.empty),.d (.int .i64 0),.d (.int .i64 0),.d (.bool false),.d (.bool false),.d (.bool false),.d (.bool false),.nils false 1,.d (.str ByteArray.empty),.d (.int .i64 0),.d (.int .i64 0),.d (.bool false),.d (.bool false),.d (.bool false),.d (.bool false),.nils false 1,.d (.str ByteArray.empty),.d (.int .i64 0),.d (.int .i64 0),.d (.bool false),.d (.bool false),.d (.bool false),.d (.bool false),.nils false 1,.d (.str ByteArray.empty),.d (.int .i64 0),.d (.int .i64 0),.d (.bool false),.d (.bool false),.d (.bool false),.d (.bool false),.nils false 1,.d (.str ByteArray.empty),.d (.int .i64 0),.d (.int .i64 0),.d (.bool false),.d (.bool false),.d (.bool false),.d (.bool false),.nils false 1,.d (.str ByteArray.empty),.d (.int .i64 0),.d (.int .i64 0),.d (.bool false),.d (.bool false),.d (.bool false),.d (.bool false),.nils false 1,.d (.str ByteArray.empty),.d (.int .i64 0),.d (.int .i64 0),.d (.bool false),.d (.bool false),.d (.bool false),.d (.bool false),.nils false 1,.d (.str ByteArray.empty),.d (.int .i64 0),.d (.int .i64 0),.d (.bool false),.d (.bool false),.d (.bool false),.d (.bool false),.nils false 1,.d (.str ByteArray.empty),.d (.int .i64 0),.d (.int .i64 0),.d (.bool false),.d (.bool false),.d (.bool false),.d (.bool false),.nils false 1,.d (.str ByteArray.empty),.d (.int .i64 0),.d (.int .i64 0),.d (.bool false),.d (.bool false),.d (.bool false),.d (.bool false),.nils false 1,.d (.str ByteArray.empty),.d (.int .i64 0),.d (.int .i64 0),.d (.bool false),.d (.bool false),.d (.bool false),.d (.bool false),.nils false 1,.d (.str ByteArray.empty),.d (.int .i64 0),.d (.int .i64 0),.d (.bool false),.d (.bool false),.d (.bool false),.d (.bool false),.nils false 1,.d (.str ByteArray.empty),.d (.int .i64 0),.d (.int .i64 0),.d (.bool false),.d (.bool false),.d (.bool false),.d (.bool false),.nils false 1,.d (.str ByteArray.empty),.d (.int .i64 0),.d (.int .i64 0),.d (.bool false),.d (.bool false),.d (.bool false),.d (.bool false),.nils false 1,.d (.str ByteArray.empty),.d (.int .i64 0),.d (.int .i64 0),.d (.bool false),.d (.bool false),.d (.bool false),.d (.bool false),.nils false 1,.d (.str ByteArray.empty),.d (.int .i64 0),.d (.int .i64 0),.d (.bool false),.d (.bool false),.d (.bool false),.d (.bool false),.nils false 1,.d (.str ByteArray.empty),.d (.int .i64 0),.d (.int .i64 0),.d (.bool false),.d (.bool false),.d (.bool false),.d (.bool false),.nils false 1,.d (.str ByteArray.empty),.d (.int .i64 0),.d (.int .i64 0),.d (.bool false),.d (.bool false),.d (.bool false),.d (.bool false),.nils false 1,.d (.str ByteArray.empty),.d (.int .i64 0),.d (.int .i64 0),.d (.bool false),.d (.bool false),.d (.bool false),.d (.bool false),.nils false 1,.d (.str ByteArray.empty),.d (.int .i64 0),.d (.int .i64 0),.d (.bool false),.d (.bool false),.d (.bool false),.d (.bool false),.nils false 1,.d (.str ByteArray.empty),.d (.int .i64 0),.d (.int .i64 0),.d (.bool false),.d (.bool false),.d (.bool false),.d (.bool false),.nils false 1,.d (.str ByteArray.empty),.d (.int .i64 0),.d (.int .i64 0),.d (.bool false),.d (.bool false),.d (.bool false),.d (.bool false),.nils false 1,.d (.str ByteArray.empty),.d (.int .i64 0),.d (.int .i64 0),.d (.bool false),.d (.bool false),.d (.bool false),.d (.bool false),.nils false 1]⟩),
 (300,⟨.func #[] #[299] false,1,8,.nilFunc,[.nilf]⟩),
 (301,⟨.func #[78,242] #[3] false,1,8,.nilFunc,[.nilf]⟩),
 (302,⟨.func #[40,52] #[3] false,1,8,.nilFunc,[.nilf]⟩),
 (303,⟨.array 32 5,32,32,.agg #[.int .u8 0,.int .u8 0,.int .u8 0,.int .u8 0,.int .u8 0,.int .u8 0,.int .u8 0,.int .u8 0,.int .u8 0,.int .u8 0,.int .u8 0,.int .u8 0,.int .u8 0,.int .u8 0,.int .u8 0,.int .u8 0,.int .u8 0,.int .u8 0,.int .u8 0,.int .u8 0,.int .u8 0,.int .u8 0,.int .u8 0,.int .u8 0,.int .u8 0,.int .u8 0,.int .u8 0,.int .u8 0,.int .u8 0,.int .u8 0,.int .u8 0,.int .u8 0],[.d (.int .u8 0),.d (.int .u8 0),.d (.int .u8 0),.d (.int .u8 0),.d (.int .u8 0),.d (.int .u8 0),.d (.int .u8 0),.d (.int .u8 0),.d (.int .u8 0),.d (.int .u8 0),.d (.int .u8 0),.d (.int .u8 0),.d (.int .u8 0),.d (.int .u8 0),.d (.int .u8 0),.d (.int .u8 0),.d (.int .u8 0),.d (.int .u8 0),.d (.int .u8 0),.d (.int .u8 0),.d (.int .u8 0),.d (.int .u8 0),.d (.int .u8 0),.d (.int .u8 0),.d (.int .u8 0),.d (.int .u8 0),.d (.int .u8 0),.d (.int .u8 0),.d (.int .u8 0),.d (.int .u8 0),.d (.int .u8 0),.d (.int .u8 0)]⟩)]
def tabC19:List (Nat×TI):=[(304,⟨.array 64 5,64,64,.agg #[.int .u8 0,.int .u8 0,.int .u8 0,.int .u8 0,.int .u8 0,.int .u8 0,.int .u8 0,.int .u8 0,.int .u8 0,.int .u8 0,.int .u8 0,.int .u8 0,.int .u8 0,.int .u8 0,.int .u8 0,.int .u8 0,.int .u8 0,.int .u8 0,.int .u8 0,.int .u8 0,.int .u8 0,.int .u8 0,.int .u8 0,.int .u8 0,.int .u8 0,.int .u8 0,.int .u8 0,.int .u8 0,.int .u8 0,.int .u8 0,.int .u8 0,.int .u8 0,.int .u8 0,.int .u8 0,.int .u8 0,.int .u8 0,.int .u8 0,.int .u8 0,.int .u8 0,.int .u8 0,.int .u8 0,.int .u8 0,.int .u8 0,.int .u8 0,.int .u8 0,.int .u8 0,.int .u8 0,.int .u8 0,.int .u8 0,.int .u8 0,.int .u8 0,.int .u8 0,.int .u8 0,.int .u8 0,.int .u8 0,.int .u8 0,.int .u8 0,.int .u8 0,.int .u8 0,.int .u8 0,.int .u8 0,.int .u8 0,.int .u8 0,.int .u8 0],[.d (.int .u8 0),.d (.int .u8 0),.d (.int .u8 0),.d (.int .u8 0),.d (.int .u8 0),.d (.int .u8 0),.d (.int .u8 0),.d (.int .u8 0),.d (.int .u8 0),.d (.int .u8 0),.d (.int .u8 0),.d (.int .u8 0),.d (.int .u8 0),.d (.int .u8 0),.d (.int .u8 0),.d (.int .u8 0),.d (.int .u8 0),.d (.int .u8 0),.d (.int .u8 0),.d (.int .u8 0),.d (.int .u8 0),.d (.int .u8 0),.d (.int .u8 0),.d (.int .u8 0),.d (.int .u8 0),.d (.int .u8 0),.d (.int .u8 0),.d (.int .u8 0),.d (.int .u8 0),.d (.int .u8 0),.d (.int .u8 0),.d (.int .u8 0),.d (.int .u8 0),.d (.int .u8 0),.d (.int .u8 0),.d (.int .u8 0),.d (.int .u8 0),.d (.int .u8 0),.d (.int .u8 0),.d (.int .u8 0),.d (.int .u8 0),.d (.int .u8 0),.d (.int .u8 0),.d (.int .u8 0),.d (.int .u8 0),.d (.int .u8 0),.d (.int .u8 0),.d (.int .u8 0),.d (.int .u8 0),.d (.int .u8 0),.d (.int .u8 0),.d (.int .u8 0),.d (.int .u8 0),.d (.int .u8 0),.d (.int .u8 0),.d (.int .u8 0),.d (.int .u8 0),.d (.int .u8 0),.d (.int .u8 0),.d (.int .u8 0),.d (.int .u8 0),.d (.int .u8 0),.d (.int .u8 0),.d (.int .u8 0)]⟩),
 (305,⟨.func #[9] #[286] false,1,8,.nilFunc,[.nilf]⟩),
 (306,⟨.struct #[⟨"_interface",17,0,false, "", "runtime",0⟩,⟨"concrete",17,1,false, "", "runtime",8⟩,⟨"asserted",17,2,false, "", "runtime",16⟩,⟨"missingMethod",9,3,false, "", "runtime",24⟩],4,40,.agg #[.pointer none,.pointer none,.pointer none,.string ByteArray.empty],[.nilp,.nilp,.nilp,.d (.str ByteArray.empty)]⟩),
 (307,⟨.struct #[⟨"_interface",17,0,false, "", "runtime",0⟩,⟨"concrete",17,1,false, "", "runtime",8⟩,⟨"asserted",17,2,false, "", "runtime",16⟩,⟨"missingMethod",9,3,false, "", "runtime",24⟩],4,40,.agg #[.pointer none,.pointer none,.pointer none,.string ByteArray.empty],[.nilp,.nilp,.nilp,.d (.str ByteArray.empty)]⟩),
 (311,⟨.int .u8,1,1,.int .u8 0,[.d (.int .u8 0)]⟩),
 (312,⟨.int .u8,1,1,.int .u8 0,[.d (.int .u8 0)]⟩),
 (313,⟨.func #[266,266] #[4] false,1,8,.nilFunc,[.nilf]⟩),
 (314,⟨.int .i32,1,4,.int .i32 0,[.d (.int .i32 0)]⟩),
 (315,⟨.int .i32,1,4,.int .i32 0,[.d (.int .i32 0)]⟩),
 (316,⟨.struct #[⟨"Size_",12,0,false, "", "",0⟩,⟨"PtrBytes",12,1,false, "", "",8⟩,⟨"Hash",262,2,false, "", "",16⟩,⟨"TFlag",311,3,false, "", "",20⟩,⟨"Align_",5,4,false, "", "",21⟩,⟨"FieldAlign_",5,5,false, "", "",22⟩,⟨"Kind_",312,6,false, "", "",23⟩,⟨"Equal",313,7,false, "", "",24⟩,⟨"GCData",217,8,false, "", "",32⟩,⟨"Str",314,9,false, "", "",40⟩,⟨"PtrToThis",315,10,false, "", "",44⟩],11,48,.agg #[.int .u64 0,.int .u64 0,.int .u32 0,.int .u8 0,.int .u8 0,.int .u8 0,.int .u8 0,.nilFunc,.pointer none,.int .i32 0,.int .i32 0],[.d (.int .u64 0),.d (.int .u64 0),.d (.int .u32 0),.d (.int .u8 0),.d (.int .u8 0),.d (.int .u8 0),.d (.int .u8 0),.nilf,.nilp,.d (.int .i32 0),.d (.int .i32 0)]⟩),
 (317,⟨.struct #[⟨"Size_",12,0,false, "", "",0⟩,⟨"PtrBytes",12,1,false, "", "",8⟩,⟨"Hash",262,2,false, "", "",16⟩,⟨"TFlag",311,3,false, "", "",20⟩,⟨"Align_",5,4,false, "", "",21⟩,⟨"FieldAlign_",5,5,false, "", "",22⟩,⟨"Kind_",312,6,false, "", "",23⟩,⟨"Equal",313,7,false, "", "",24⟩,⟨"GCData",217,8,false, "", "",32⟩,⟨"Str",314,9,false, "", "",40⟩,⟨"PtrToThis",315,10,false, "", "",44⟩],11,48,.agg #[.int .u64 0,.int .u64 0,.int .u32 0,.int .u8 0,.int .u8 0,.int .u8 0,.int .u8 0,.nilFunc,.pointer none,.int .i32 0,.int .i32 0],[.d (.int .u64 0),.d (.int .u64 0),.d (.int .u32 0),.d (.int .u8 0),.d (.int .u8 0),.d (.int .u8 0),.d (.int .u8 0),.nilf,.nilp,.d (.int .i32 0),.d (.int .i32 0)]⟩),
 (318,⟨.slice 322,1,24,.slice none 0 0,[.nils true 3]⟩),
 (319,⟨.struct #[⟨"Op",5,0,false, "", "",0⟩,⟨"Name",9,1,false, "", "",8⟩,⟨"Second",9,2,false, "", "",24⟩,⟨"Names",78,3,false, "", "",40⟩,⟨"Type",248,4,false, "", "",64⟩,⟨"Int",2,7,false, "", "",112⟩,⟨"Place",251,8,false, "", "",120⟩,⟨"Exprs",252,10,false, "", "",160⟩,⟨"Body",249,11,false, "", "",184⟩,⟨"Else",249,12,false, "", "",208⟩,⟨"Arms",318,13,false, "", "",232⟩,⟨"At",3,14,false, "", "",256⟩],15,264,.agg #[.int .u8 0,.string ByteArray.empty,.string ByteArray.empty,.slice none 0 0,.int .u8 0,.string ByteArray.empty,.slice none 0 0,.int .i64 0,.string ByteArray.empty,.slice none 0 0,.slice none 0 0,.slice none 0 0,.slice none 0 0,.slice none 0 0,.int .i64 0],[.d (.int .u8 0),.d (.str ByteArray.empty),.d (.str ByteArray.empty),.nils false 1,.d (.int .u8 0),.d (.str ByteArray.empty),.nils true 3,.d (.int .i64 0),.d (.str ByteArray.empty),.nils false 1,.nils true 8,.nils true 15,.nils true 15,.nils true 3,.d (.int .i64 0)]⟩)]
def tabC20:List (Nat×TI):=[(320,⟨.struct #[⟨"Op",5,0,false, "", "",0⟩,⟨"Name",9,1,false, "", "",8⟩,⟨"Second",9,2,false, "", "",24⟩,⟨"Names",78,3,false, "", "",40⟩,⟨"Type",248,4,false, "", "",64⟩,⟨"Int",2,7,false, "", "",112⟩,⟨"Place",251,8,false, "", "",120⟩,⟨"Exprs",252,10,false, "", "",160⟩,⟨"Body",249,11,false, "", "",184⟩,⟨"Else",249,12,false, "", "",208⟩,⟨"Arms",318,13,false, "", "",232⟩,⟨"At",3,14,false, "", "",256⟩],15,264,.agg #[.int .u8 0,.string ByteArray.empty,.string ByteArray.empty,.slice none 0 0,.int .u8 0,.string ByteArray.empty,.slice none 0 0,.int .i64 0,.string ByteArray.empty,.slice none 0 0,.slice none 0 0,.slice none 0 0,.slice none 0 0,.slice none 0 0,.int .i64 0],[.d (.int .u8 0),.d (.str ByteArray.empty),.d (.str ByteArray.empty),.nils false 1,.d (.int .u8 0),.d (.str ByteArray.empty),.nils true 3,.d (.int .i64 0),.d (.str ByteArray.empty),.nils false 1,.nils true 8,.nils true 15,.nils true 15,.nils true 3,.d (.int .i64 0)]⟩),
 (321,⟨.struct #[⟨"Variant",9,0,false, "", "",0⟩,⟨"Name",9,1,false, "", "",16⟩,⟨"Body",249,2,false, "", "",32⟩],3,56,.agg #[.string ByteArray.empty,.string ByteArray.empty,.slice none 0 0],[.d (.str ByteArray.empty),.d (.str ByteArray.empty),.nils true 15]⟩),
 (322,⟨.struct #[⟨"Variant",9,0,false, "", "",0⟩,⟨"Name",9,1,false, "", "",16⟩,⟨"Body",249,2,false, "", "",32⟩],3,56,.agg #[.string ByteArray.empty,.string ByteArray.empty,.slice none 0 0],[.d (.str ByteArray.empty),.d (.str ByteArray.empty),.nils true 15]⟩)]
def tabAll:List (List (Nat×TI)):=[tabC0,tabC1,tabC2,tabC3,tabC4,tabC5,tabC6,tabC7,tabC8,tabC9,tabC10,tabC11,tabC12,tabC13,tabC14,tabC15,tabC16,tabC17,tabC18,tabC19,tabC20]
def tab:Types:=tabOf tabAll
theorem tabG0:allGood Tryz.prog tabC0:=⟨⟨by kernel_rfl,by kernel_rfl,by kernel_rfl⟩,⟨by kernel_rfl,by kernel_rfl,by kernel_rfl⟩,⟨by kernel_rfl,by kernel_rfl,by kernel_rfl⟩,⟨by kernel_rfl,by kernel_rfl,by kernel_rfl⟩,⟨by kernel_rfl,by kernel_rfl,by kernel_rfl⟩,⟨by kernel_rfl,by kernel_rfl,by kernel_rfl⟩,⟨by kernel_rfl,by kernel_rfl,by kernel_rfl⟩,⟨by kernel_rfl,by kernel_rfl,by kernel_rfl⟩,⟨by kernel_rfl,by kernel_rfl,by kernel_rfl⟩,⟨by kernel_rfl,by kernel_rfl,by kernel_rfl⟩,⟨by kernel_rfl,by kernel_rfl,by kernel_rfl⟩,⟨by kernel_rfl,by kernel_rfl,by kernel_rfl⟩,⟨by kernel_rfl,by kernel_rfl,by kernel_rfl⟩,⟨by kernel_rfl,by kernel_rfl,by kernel_rfl⟩,⟨by kernel_rfl,by kernel_rfl,by kernel_rfl⟩,trivial⟩
theorem tabG1:allGood Tryz.prog tabC1:=⟨⟨by kernel_rfl,by kernel_rfl,by kernel_rfl⟩,⟨by kernel_rfl,by kernel_rfl,by kernel_rfl⟩,⟨by kernel_rfl,by kernel_rfl,by kernel_rfl⟩,⟨by kernel_rfl,by kernel_rfl,by kernel_rfl⟩,⟨by kernel_rfl,by kernel_rfl,by kernel_rfl⟩,⟨by kernel_rfl,by kernel_rfl,by kernel_rfl⟩,⟨by kernel_rfl,by kernel_rfl,by kernel_rfl⟩,⟨by kernel_rfl,by kernel_rfl,by kernel_rfl⟩,⟨by kernel_rfl,by kernel_rfl,by kernel_rfl⟩,⟨by kernel_rfl,by kernel_rfl,by kernel_rfl⟩,⟨by kernel_rfl,by kernel_rfl,by kernel_rfl⟩,⟨by kernel_rfl,by kernel_rfl,by kernel_rfl⟩,⟨by kernel_rfl,by kernel_rfl,by kernel_rfl⟩,⟨by kernel_rfl,by kernel_rfl,by kernel_rfl⟩,⟨by kernel_rfl,by kernel_rfl,by kernel_rfl⟩,⟨by kernel_rfl,by kernel_rfl,by kernel_rfl⟩,trivial⟩
theorem tabG2:allGood Tryz.prog tabC2:=⟨⟨by kernel_rfl,by kernel_rfl,by kernel_rfl⟩,⟨by kernel_rfl,by kernel_rfl,by kernel_rfl⟩,⟨by kernel_rfl,by kernel_rfl,by kernel_rfl⟩,⟨by kernel_rfl,by kernel_rfl,by kernel_rfl⟩,⟨by kernel_rfl,by kernel_rfl,by kernel_rfl⟩,⟨by kernel_rfl,by kernel_rfl,by kernel_rfl⟩,⟨by kernel_rfl,by kernel_rfl,by kernel_rfl⟩,⟨by kernel_rfl,by kernel_rfl,by kernel_rfl⟩,⟨by kernel_rfl,by kernel_rfl,by kernel_rfl⟩,⟨by kernel_rfl,by kernel_rfl,by kernel_rfl⟩,⟨by kernel_rfl,by kernel_rfl,by kernel_rfl⟩,⟨by kernel_rfl,by kernel_rfl,by kernel_rfl⟩,⟨by kernel_rfl,by kernel_rfl,by kernel_rfl⟩,⟨by kernel_rfl,by kernel_rfl,by kernel_rfl⟩,trivial⟩
theorem tabG3:allGood Tryz.prog tabC3:=⟨⟨by kernel_rfl,by kernel_rfl,by kernel_rfl⟩,⟨by kernel_rfl,by kernel_rfl,by kernel_rfl⟩,⟨by kernel_rfl,by kernel_rfl,by kernel_rfl⟩,⟨by kernel_rfl,by kernel_rfl,by kernel_rfl⟩,⟨by kernel_rfl,by kernel_rfl,by kernel_rfl⟩,⟨by kernel_rfl,by kernel_rfl,by kernel_rfl⟩,⟨by kernel_rfl,by kernel_rfl,by kernel_rfl⟩,⟨by kernel_rfl,by kernel_rfl,by kernel_rfl⟩,⟨by kernel_rfl,by kernel_rfl,by kernel_rfl⟩,⟨by kernel_rfl,by kernel_rfl,by kernel_rfl⟩,⟨by kernel_rfl,by kernel_rfl,by kernel_rfl⟩,⟨by kernel_rfl,by kernel_rfl,by kernel_rfl⟩,⟨by kernel_rfl,by kernel_rfl,by kernel_rfl⟩,⟨by kernel_rfl,by kernel_rfl,by kernel_rfl⟩,⟨by kernel_rfl,by kernel_rfl,by kernel_rfl⟩,⟨by kernel_rfl,by kernel_rfl,by kernel_rfl⟩,trivial⟩
theorem tabG4:allGood Tryz.prog tabC4:=⟨⟨by kernel_rfl,by kernel_rfl,by kernel_rfl⟩,⟨by kernel_rfl,by kernel_rfl,by kernel_rfl⟩,⟨by kernel_rfl,by kernel_rfl,by kernel_rfl⟩,⟨by kernel_rfl,by kernel_rfl,by kernel_rfl⟩,⟨by kernel_rfl,by kernel_rfl,by kernel_rfl⟩,⟨by kernel_rfl,by kernel_rfl,by kernel_rfl⟩,⟨by kernel_rfl,by kernel_rfl,by kernel_rfl⟩,⟨by kernel_rfl,by kernel_rfl,by kernel_rfl⟩,⟨by kernel_rfl,by kernel_rfl,by kernel_rfl⟩,⟨by kernel_rfl,by kernel_rfl,by kernel_rfl⟩,⟨by kernel_rfl,by kernel_rfl,by kernel_rfl⟩,⟨by kernel_rfl,by kernel_rfl,by kernel_rfl⟩,⟨by kernel_rfl,by kernel_rfl,by kernel_rfl⟩,⟨by kernel_rfl,by kernel_rfl,by kernel_rfl⟩,⟨by kernel_rfl,by kernel_rfl,by kernel_rfl⟩,⟨by kernel_rfl,by kernel_rfl,by kernel_rfl⟩,trivial⟩
theorem tabG5:allGood Tryz.prog tabC5:=⟨⟨by kernel_rfl,by kernel_rfl,by kernel_rfl⟩,⟨by kernel_rfl,by kernel_rfl,by kernel_rfl⟩,⟨by kernel_rfl,by kernel_rfl,by kernel_rfl⟩,⟨by kernel_rfl,by kernel_rfl,by kernel_rfl⟩,⟨by kernel_rfl,by kernel_rfl,by kernel_rfl⟩,⟨by kernel_rfl,by kernel_rfl,by kernel_rfl⟩,⟨by kernel_rfl,by kernel_rfl,by kernel_rfl⟩,⟨by kernel_rfl,by kernel_rfl,by kernel_rfl⟩,⟨by kernel_rfl,by kernel_rfl,by kernel_rfl⟩,⟨by kernel_rfl,by kernel_rfl,by kernel_rfl⟩,⟨by kernel_rfl,by kernel_rfl,by kernel_rfl⟩,⟨by kernel_rfl,by kernel_rfl,by kernel_rfl⟩,⟨by kernel_rfl,by kernel_rfl,by kernel_rfl⟩,⟨by kernel_rfl,by kernel_rfl,by kernel_rfl⟩,⟨by kernel_rfl,by kernel_rfl,by kernel_rfl⟩,⟨by kernel_rfl,by kernel_rfl,by kernel_rfl⟩,trivial⟩
theorem tabG6:allGood Tryz.prog tabC6:=⟨⟨by kernel_rfl,by kernel_rfl,by kernel_rfl⟩,⟨by kernel_rfl,by kernel_rfl,by kernel_rfl⟩,⟨by kernel_rfl,by kernel_rfl,by kernel_rfl⟩,⟨by kernel_rfl,by kernel_rfl,by kernel_rfl⟩,⟨by kernel_rfl,by kernel_rfl,by kernel_rfl⟩,⟨by kernel_rfl,by kernel_rfl,by kernel_rfl⟩,⟨by kernel_rfl,by kernel_rfl,by kernel_rfl⟩,⟨by kernel_rfl,by kernel_rfl,by kernel_rfl⟩,⟨by kernel_rfl,by kernel_rfl,by kernel_rfl⟩,⟨by kernel_rfl,by kernel_rfl,by kernel_rfl⟩,⟨by kernel_rfl,by kernel_rfl,by kernel_rfl⟩,⟨by kernel_rfl,by kernel_rfl,by kernel_rfl⟩,⟨by kernel_rfl,by kernel_rfl,by kernel_rfl⟩,⟨by kernel_rfl,by kernel_rfl,by kernel_rfl⟩,⟨by kernel_rfl,by kernel_rfl,by kernel_rfl⟩,trivial⟩
theorem tabG7:allGood Tryz.prog tabC7:=⟨⟨by kernel_rfl,by kernel_rfl,by kernel_rfl⟩,⟨by kernel_rfl,by kernel_rfl,by kernel_rfl⟩,⟨by kernel_rfl,by kernel_rfl,by kernel_rfl⟩,⟨by kernel_rfl,by kernel_rfl,by kernel_rfl⟩,⟨by kernel_rfl,by kernel_rfl,by kernel_rfl⟩,⟨by kernel_rfl,by kernel_rfl,by kernel_rfl⟩,⟨by kernel_rfl,by kernel_rfl,by kernel_rfl⟩,⟨by kernel_rfl,by kernel_rfl,by kernel_rfl⟩,⟨by kernel_rfl,by kernel_rfl,by kernel_rfl⟩,⟨by kernel_rfl,by kernel_rfl,by kernel_rfl⟩,⟨by kernel_rfl,by kernel_rfl,by kernel_rfl⟩,⟨by kernel_rfl,by kernel_rfl,by kernel_rfl⟩,⟨by kernel_rfl,by kernel_rfl,by kernel_rfl⟩,⟨by kernel_rfl,by kernel_rfl,by kernel_rfl⟩,⟨by kernel_rfl,by kernel_rfl,by kernel_rfl⟩,trivial⟩
theorem tabG8:allGood Tryz.prog tabC8:=⟨⟨by kernel_rfl,by kernel_rfl,by kernel_rfl⟩,⟨by kernel_rfl,by kernel_rfl,by kernel_rfl⟩,⟨by kernel_rfl,by kernel_rfl,by kernel_rfl⟩,⟨by kernel_rfl,by kernel_rfl,by kernel_rfl⟩,⟨by kernel_rfl,by kernel_rfl,by kernel_rfl⟩,⟨by kernel_rfl,by kernel_rfl,by kernel_rfl⟩,⟨by kernel_rfl,by kernel_rfl,by kernel_rfl⟩,⟨by kernel_rfl,by kernel_rfl,by kernel_rfl⟩,⟨by kernel_rfl,by kernel_rfl,by kernel_rfl⟩,⟨by kernel_rfl,by kernel_rfl,by kernel_rfl⟩,⟨by kernel_rfl,by kernel_rfl,by kernel_rfl⟩,trivial⟩
theorem tabG9:allGood Tryz.prog tabC9:=⟨⟨by kernel_rfl,by kernel_rfl,by kernel_rfl⟩,⟨by kernel_rfl,by kernel_rfl,by kernel_rfl⟩,⟨by kernel_rfl,by kernel_rfl,by kernel_rfl⟩,⟨by kernel_rfl,by kernel_rfl,by kernel_rfl⟩,⟨by kernel_rfl,by kernel_rfl,by kernel_rfl⟩,⟨by kernel_rfl,by kernel_rfl,by kernel_rfl⟩,⟨by kernel_rfl,by kernel_rfl,by kernel_rfl⟩,⟨by kernel_rfl,by kernel_rfl,by kernel_rfl⟩,⟨by kernel_rfl,by kernel_rfl,by kernel_rfl⟩,⟨by kernel_rfl,by kernel_rfl,by kernel_rfl⟩,⟨by kernel_rfl,by kernel_rfl,by kernel_rfl⟩,⟨by kernel_rfl,by kernel_rfl,by kernel_rfl⟩,⟨by kernel_rfl,by kernel_rfl,by kernel_rfl⟩,trivial⟩
theorem tabG10:allGood Tryz.prog tabC10:=⟨⟨by kernel_rfl,by kernel_rfl,by kernel_rfl⟩,⟨by kernel_rfl,by kernel_rfl,by kernel_rfl⟩,⟨by kernel_rfl,by kernel_rfl,by kernel_rfl⟩,⟨by kernel_rfl,by kernel_rfl,by kernel_rfl⟩,⟨by kernel_rfl,by kernel_rfl,by kernel_rfl⟩,⟨by kernel_rfl,by kernel_rfl,by kernel_rfl⟩,⟨by kernel_rfl,by kernel_rfl,by kernel_rfl⟩,⟨by kernel_rfl,by kernel_rfl,by kernel_rfl⟩,⟨by kernel_rfl,by kernel_rfl,by kernel_rfl⟩,⟨by kernel_rfl,by kernel_rfl,by kernel_rfl⟩,⟨by kernel_rfl,by kernel_rfl,by kernel_rfl⟩,⟨by kernel_rfl,by kernel_rfl,by kernel_rfl⟩,⟨by kernel_rfl,by kernel_rfl,by kernel_rfl⟩,⟨by kernel_rfl,by kernel_rfl,by kernel_rfl⟩,⟨by kernel_rfl,by kernel_rfl,by kernel_rfl⟩,trivial⟩
theorem tabG11:allGood Tryz.prog tabC11:=⟨⟨by kernel_rfl,by kernel_rfl,by kernel_rfl⟩,⟨by kernel_rfl,by kernel_rfl,by kernel_rfl⟩,⟨by kernel_rfl,by kernel_rfl,by kernel_rfl⟩,⟨by kernel_rfl,by kernel_rfl,by kernel_rfl⟩,⟨by kernel_rfl,by kernel_rfl,by kernel_rfl⟩,⟨by kernel_rfl,by kernel_rfl,by kernel_rfl⟩,⟨by kernel_rfl,by kernel_rfl,by kernel_rfl⟩,⟨by kernel_rfl,by kernel_rfl,by kernel_rfl⟩,⟨by kernel_rfl,by kernel_rfl,by kernel_rfl⟩,⟨by kernel_rfl,by kernel_rfl,by kernel_rfl⟩,⟨by kernel_rfl,by kernel_rfl,by kernel_rfl⟩,⟨by kernel_rfl,by kernel_rfl,by kernel_rfl⟩,⟨by kernel_rfl,by kernel_rfl,by kernel_rfl⟩,⟨by kernel_rfl,by kernel_rfl,by kernel_rfl⟩,⟨by kernel_rfl,by kernel_rfl,by kernel_rfl⟩,⟨by kernel_rfl,by kernel_rfl,by kernel_rfl⟩,trivial⟩
theorem tabG12:allGood Tryz.prog tabC12:=⟨⟨by kernel_rfl,by kernel_rfl,by kernel_rfl⟩,⟨by kernel_rfl,by kernel_rfl,by kernel_rfl⟩,⟨by kernel_rfl,by kernel_rfl,by kernel_rfl⟩,⟨by kernel_rfl,by kernel_rfl,by kernel_rfl⟩,⟨by kernel_rfl,by kernel_rfl,by kernel_rfl⟩,⟨by kernel_rfl,by kernel_rfl,by kernel_rfl⟩,⟨by kernel_rfl,by kernel_rfl,by kernel_rfl⟩,⟨by kernel_rfl,by kernel_rfl,by kernel_rfl⟩,⟨by kernel_rfl,by kernel_rfl,by kernel_rfl⟩,⟨by kernel_rfl,by kernel_rfl,by kernel_rfl⟩,⟨by kernel_rfl,by kernel_rfl,by kernel_rfl⟩,⟨by kernel_rfl,by kernel_rfl,by kernel_rfl⟩,⟨by kernel_rfl,by kernel_rfl,by kernel_rfl⟩,⟨by kernel_rfl,by kernel_rfl,by kernel_rfl⟩,⟨by kernel_rfl,by kernel_rfl,by kernel_rfl⟩,trivial⟩
theorem tabG13:allGood Tryz.prog tabC13:=⟨⟨by kernel_rfl,by kernel_rfl,by kernel_rfl⟩,⟨by kernel_rfl,by kernel_rfl,by kernel_rfl⟩,⟨by kernel_rfl,by kernel_rfl,by kernel_rfl⟩,⟨by kernel_rfl,by kernel_rfl,by kernel_rfl⟩,⟨by kernel_rfl,by kernel_rfl,by kernel_rfl⟩,⟨by kernel_rfl,by kernel_rfl,by kernel_rfl⟩,⟨by kernel_rfl,by kernel_rfl,by kernel_rfl⟩,⟨by kernel_rfl,by kernel_rfl,by kernel_rfl⟩,⟨by kernel_rfl,by kernel_rfl,by kernel_rfl⟩,⟨by kernel_rfl,by kernel_rfl,by kernel_rfl⟩,⟨by kernel_rfl,by kernel_rfl,by kernel_rfl⟩,⟨by kernel_rfl,by kernel_rfl,by kernel_rfl⟩,⟨by kernel_rfl,by kernel_rfl,by kernel_rfl⟩,⟨by kernel_rfl,by kernel_rfl,by kernel_rfl⟩,⟨by kernel_rfl,by kernel_rfl,by kernel_rfl⟩,trivial⟩
theorem tabG14:allGood Tryz.prog tabC14:=⟨⟨by kernel_rfl,by kernel_rfl,by kernel_rfl⟩,⟨by kernel_rfl,by kernel_rfl,by kernel_rfl⟩,⟨by kernel_rfl,by kernel_rfl,by kernel_rfl⟩,⟨by kernel_rfl,by kernel_rfl,by kernel_rfl⟩,⟨by kernel_rfl,by kernel_rfl,by kernel_rfl⟩,⟨by kernel_rfl,by kernel_rfl,by kernel_rfl⟩,⟨by kernel_rfl,by kernel_rfl,by kernel_rfl⟩,⟨by kernel_rfl,by kernel_rfl,by kernel_rfl⟩,⟨by kernel_rfl,by kernel_rfl,by kernel_rfl⟩,⟨by kernel_rfl,by kernel_rfl,by kernel_rfl⟩,⟨by kernel_rfl,by kernel_rfl,by kernel_rfl⟩,⟨by kernel_rfl,by kernel_rfl,by kernel_rfl⟩,⟨by kernel_rfl,by kernel_rfl,by kernel_rfl⟩,⟨by kernel_rfl,by kernel_rfl,by kernel_rfl⟩,⟨by kernel_rfl,by kernel_rfl,by kernel_rfl⟩,trivial⟩
theorem tabG15:allGood Tryz.prog tabC15:=⟨⟨by kernel_rfl,by kernel_rfl,by kernel_rfl⟩,⟨by kernel_rfl,by kernel_rfl,by kernel_rfl⟩,⟨by kernel_rfl,by kernel_rfl,by kernel_rfl⟩,⟨by kernel_rfl,by kernel_rfl,by kernel_rfl⟩,⟨by kernel_rfl,by kernel_rfl,by kernel_rfl⟩,⟨by kernel_rfl,by kernel_rfl,by kernel_rfl⟩,⟨by kernel_rfl,by kernel_rfl,by kernel_rfl⟩,⟨by kernel_rfl,by kernel_rfl,by kernel_rfl⟩,⟨by kernel_rfl,by kernel_rfl,by kernel_rfl⟩,⟨by kernel_rfl,by kernel_rfl,by kernel_rfl⟩,⟨by kernel_rfl,by kernel_rfl,by kernel_rfl⟩,⟨by kernel_rfl,by kernel_rfl,by kernel_rfl⟩,⟨by kernel_rfl,by kernel_rfl,by kernel_rfl⟩,⟨by kernel_rfl,by kernel_rfl,by kernel_rfl⟩,⟨by kernel_rfl,by kernel_rfl,by kernel_rfl⟩,trivial⟩
theorem tabG16:allGood Tryz.prog tabC16:=⟨⟨by kernel_rfl,by kernel_rfl,by kernel_rfl⟩,⟨by kernel_rfl,by kernel_rfl,by kernel_rfl⟩,⟨by kernel_rfl,by kernel_rfl,by kernel_rfl⟩,⟨by kernel_rfl,by kernel_rfl,by kernel_rfl⟩,⟨by kernel_rfl,by kernel_rfl,by kernel_rfl⟩,⟨by kernel_rfl,by kernel_rfl,by kernel_rfl⟩,⟨by kernel_rfl,by kernel_rfl,by kernel_rfl⟩,⟨by kernel_rfl,by kernel_rfl,by kernel_rfl⟩,⟨by kernel_rfl,by kernel_rfl,by kernel_rfl⟩,⟨by kernel_rfl,by kernel_rfl,by kernel_rfl⟩,⟨by kernel_rfl,by kernel_rfl,by kernel_rfl⟩,⟨by kernel_rfl,by kernel_rfl,by kernel_rfl⟩,⟨by kernel_rfl,by kernel_rfl,by kernel_rfl⟩,⟨by kernel_rfl,by kernel_rfl,by kernel_rfl⟩,trivial⟩
theorem tabG17:allGood Tryz.prog tabC17:=⟨⟨by kernel_rfl,by kernel_rfl,by kernel_rfl⟩,⟨by kernel_rfl,by kernel_rfl,by kernel_rfl⟩,⟨by kernel_rfl,by kernel_rfl,by kernel_rfl⟩,⟨by kernel_rfl,by kernel_rfl,by kernel_rfl⟩,⟨by kernel_rfl,by kernel_rfl,by kernel_rfl⟩,⟨by kernel_rfl,by kernel_rfl,by kernel_rfl⟩,⟨by kernel_rfl,by kernel_rfl,by kernel_rfl⟩,⟨by kernel_rfl,by kernel_rfl,by kernel_rfl⟩,⟨by kernel_rfl,by kernel_rfl,by kernel_rfl⟩,⟨by kernel_rfl,by kernel_rfl,by kernel_rfl⟩,⟨by kernel_rfl,by kernel_rfl,by kernel_rfl⟩,⟨by kernel_rfl,by kernel_rfl,by kernel_rfl⟩,⟨by kernel_rfl,by kernel_rfl,by kernel_rfl⟩,⟨by kernel_rfl,by kernel_rfl,by kernel_rfl⟩,trivial⟩
theorem tabG18:allGood Tryz.prog tabC18:=⟨⟨by kernel_rfl,by kernel_rfl,by kernel_rfl⟩,⟨by kernel_rfl,by kernel_rfl,by kernel_rfl⟩,⟨by kernel_rfl,by kernel_rfl,by kernel_rfl⟩,⟨by kernel_rfl,by kernel_rfl,by kernel_rfl⟩,⟨by kernel_rfl,by kernel_rfl,by kernel_rfl⟩,⟨by kernel_rfl,by kernel_rfl,by kernel_rfl⟩,⟨by kernel_rfl,by kernel_rfl,by kernel_rfl⟩,⟨by kernel_rfl,by kernel_rfl,by kernel_rfl⟩,⟨by kernel_rfl,by kernel_rfl,by kernel_rfl⟩,⟨by kernel_rfl,by kernel_rfl,by kernel_rfl⟩,⟨by kernel_rfl,by kernel_rfl,by kernel_rfl⟩,⟨by kernel_rfl,by kernel_rfl,by kernel_rfl⟩,⟨by kernel_rfl,by kernel_rfl,by kernel_rfl⟩,⟨by kernel_rfl,by kernel_rfl,by kernel_rfl⟩,⟨by kernel_rfl,by kernel_rfl,by kernel_rfl⟩,trivial⟩
theorem tabG19:allGood Tryz.prog tabC19:=⟨⟨by kernel_rfl,by kernel_rfl,by kernel_rfl⟩,⟨by kernel_rfl,by kernel_rfl,by kernel_rfl⟩,⟨by kernel_rfl,by kernel_rfl,by kernel_rfl⟩,⟨by kernel_rfl,by kernel_rfl,by kernel_rfl⟩,⟨by kernel_rfl,by kernel_rfl,by kernel_rfl⟩,⟨by kernel_rfl,by kernel_rfl,by kernel_rfl⟩,⟨by kernel_rfl,by kernel_rfl,by kernel_rfl⟩,⟨by kernel_rfl,by kernel_rfl,by kernel_rfl⟩,⟨by kernel_rfl,by kernel_rfl,by kernel_rfl⟩,⟨by kernel_rfl,by kernel_rfl,by kernel_rfl⟩,⟨by kernel_rfl,by kernel_rfl,by kernel_rfl⟩,⟨by kernel_rfl,by kernel_rfl,by kernel_rfl⟩,⟨by kernel_rfl,by kernel_rfl,by kernel_rfl⟩,trivial⟩
theorem tabG20:allGood Tryz.prog tabC20:=⟨⟨by kernel_rfl,by kernel_rfl,by kernel_rfl⟩,⟨by kernel_rfl,by kernel_rfl,by kernel_rfl⟩,⟨by kernel_rfl,by kernel_rfl,by kernel_rfl⟩,trivial⟩
theorem tab_all:allGoods Tryz.prog tabAll:=⟨tabG0,tabG1,tabG2,tabG3,tabG4,tabG5,tabG6,tabG7,tabG8,tabG9,tabG10,tabG11,tabG12,tabG13,tabG14,tabG15,tabG16,tabG17,tabG18,tabG19,tabG20,trivial⟩
theorem tab_ok:TIok Tryz.prog tab:=tabOf_ok tab_all
theorem tab_one:TIone tab:=tabOf_one tab_all
end Go.Proofs.YtaomkgkdfafiiaaGreatDoor
namespace Go.AM
open Go Go.RowKit
def maskOf (acc:List Nat):List Edge→Nat
 | []=>0
 | e::r=>match Region.binds .any e with
  | true=>Nat.lor (Nat.lor (2 ^ e.on) (acc.getD e.on 0)) (maskOf acc r)
  | false=>maskOf acc r
def masks:List Oper→List Nat→List Nat
 | [],acc=>acc
 | o::r,acc=>masks r (acc++[maskOf acc o.after.toList])
inductive Ahead (ops:List Oper):Nat→Nat→Prop where
 | edge {i j:Nat} {o:Oper} {e:Edge} (hj:ops[j]?=some o) (he:e∈o.after.toList) (hb:Region.binds .any e=true) (hi:e.on=i):Ahead ops i j
 | trans {i j k:Nat} (h1:Ahead ops i j) (h2:Ahead ops j k):Ahead ops i k
theorem maskOf_bit {ops:List Oper}{acc:List Nat}{j:Nat}{o:Oper}(hj:ops[j]?=some o) (hacc:∀k i,(acc.getD k 0).testBit i=true→Ahead ops i k):
  ∀(l:List Edge),(∀e∈l,e∈o.after.toList)→∀i,(maskOf acc l).testBit i=true→Ahead ops i j
 | [],_,i,h=>by simp[maskOf]at h
 | e::r,hl,i,h=>by
  have ih:=maskOf_bit hj hacc r (fun e he=>hl e (List.mem_cons_of_mem _ he)) i
  unfold maskOf at h
  split at h
  ·rename_i hb
   rw[show ∀a b:Nat,Nat.lor a b=a ||| b from fun _ _=>rfl,show ∀a b:Nat,Nat.lor a b=a ||| b from fun _ _=>rfl]at h
   simp only[Nat.testBit_or,Bool.or_eq_true,Nat.testBit_two_pow,decide_eq_true_eq]at h
   rcases h with (h | h) | h
   ·exact .edge hj (hl e (by simp)) hb h
   ·exact .trans (hacc _ i h) (.edge hj (hl e (by simp)) hb rfl)
   ·exact ih h
  ·exact ih h
theorem masks_bit {ops:List Oper}:∀(l:List Oper) (acc:List Nat),ops.drop acc.length=l→(∀k i,(acc.getD k 0).testBit i=true→Ahead ops i k)→
  ∀k i,((masks l acc).getD k 0).testBit i=true→Ahead ops i k
 | [],acc,_,hacc,k,i,h=>hacc k i h
 | o::r,acc,hl,hacc,k,i,h=>by
  have hj:ops[acc.length]?=some o:=by
   have:=congrArg (fun l=>l[0]?) hl
   simpa using this
  refine masks_bit r (acc++[maskOf acc o.after.toList]) ?_ ?_ k i h
  ·have:=congrArg List.tail hl
   simpa using this
  ·intro k i hk
   by_cases h1:k<acc.length
   ·refine hacc k i ?_
    simpa [List.getD,List.getElem?_append_left h1] using hk
   ·by_cases h2:k=acc.length
    ·subst h2
     refine maskOf_bit hj hacc o.after.toList (fun e he=>he) i ?_
     simpa [List.getD] using hk
    ·have:(acc++[maskOf acc o.after.toList])[k]?=none:=by simp;omega
     simp[List.getD,this]at hk
def tmpsOf:List Operand→List Nat
 | []=>[]
 | .tmp t::r=>t::tmpsOf r
 | _::r=>tmpsOf r
def readsT (ops:Array Oper) (o:Oper):List Nat:=
 tmpsOf o.op.operands.toList++(match o.guard with
  | some (j,_)=>((ops[j]?).bind (·.dst)).toList
  | none=>[])
def meet (a b:List Nat):Bool:=a.any fun x=>b.any fun y=>Nat.beq x y
def meetI (a b:List Id):Bool:=a.any fun x=>b.any fun y=>Id.beq x y
def slotConf (ops:Array Oper) (a b:Oper):Bool:=
 meet a.dst.toList (readsT ops b) || meet a.dst.toList b.dst.toList || meet (readsT ops a) b.dst.toList
abbrev Fp:=List Id×List Id
def idConf (a b:Fp):Bool:=meetI a.2 b.1 || meetI a.2 b.2 || meetI a.1 b.2
def pairsOK (ops:Array Oper) (ms:List Nat) (l:List (Nat×Oper×Fp)):Bool:=
 l.all fun x=>l.all fun y=>!(Nat.blt x.1 y.1) || !(slotConf ops x.2.1 y.2.1 || idConf x.2.2 y.2.2) || (ms.getD y.1 0).testBit x.1
def backOK:List Oper→Nat→Bool
 | [],_=>true
 | o::r,i=>o.after.toList.all (fun e=>!(Region.binds .any e) || Nat.blt e.on i)&&backOK r (i+1)
def number:List Oper→List Fp→Nat→List (Nat×Oper×Fp)
 | o::r,f::fs,i=>(i,o,f)::number r fs (i+1)
 | _,_,_=>[]
def drawB (ops:Array Oper) (fps:List Fp):Bool:=
 Nat.beq fps.length ops.size&&(backOK ops.toList 0&&pairsOK ops (masks ops.toList []) (number ops.toList fps 0))
def drawOps (M:Mach) (ti:Types) (nt:Nat) (ops:Array Oper) (base:Nat):List Oper→Nat→St→List Fp→(St→List Fp→Prop)→Prop
 | [],i,σ,fps,K=>K ⟨σ.slots,σ.heap,base+32*i⟩ fps
 | o::r,i,σ,fps,K=>guarded ops o σ
   (fun σ1=>storeOK o<| dstOK nt o.dst<| opOut M ti o (base+32*i) (getS σ1.slots) (getH σ1.heap) fun out=>
    drawOps M ti nt ops base r (i+1) ⟨putS σ1.slots o.dst out.val,setW σ1.heap out.wr,σ1.next⟩ (fps++[(out.rd,out.wr.map (·.1))]) K)
   (fun σ1=>dstOK nt o.dst (drawOps M ti nt ops base r (i+1) ⟨putS σ1.slots o.dst (.t []),σ1.heap,σ1.next⟩ (fps++[([],[])]) K))
def execDraw (ti:Types) (M:Mach) (nt:Nat) (ops:Array Oper) (σ:St) (K:St→Prop):Prop:=
 drawOps M ti nt ops σ.next ops.toList 0 σ [] fun σ' fps=>M.lock (fun _=>drawB ops fps=true)∧K σ'
structure Ent where
 o:Oper
 run:Bool
 val:AV
 rd:List Id
 wr:List (Id×AObj)
def guardIs (ops:Array Oper) (e:Ent) (s:Slots):Prop:=
 match e.o.guard with
 | none=>e.run=true
 | some (j,want)=>∃d,(ops[j]?).bind (·.dst)=some d∧(s d= .v (.d (.bool (if e.run then want else !want)))∨(e.run=false∧s d= .t []))
def LexOK (C:Cx) (ops:Array Oper) (base:Nat):List Ent→Nat→Slots→Heap→Prop
 | [],_,_,_=>True
 | e::r,i,s,h=>ops[i]?=some e.o∧(∀d,e.o.dst=some d→d<C.nt)∧guardIs ops e s∧(e.run=true→(∀c,e.o.op≠ .defer c)∧OKop C e.o (base+32*i) s h ⟨e.val,e.rd,e.wr⟩)∧
   (e.run=false→e.val= .t []∧e.wr=[]∧e.rd=[])∧LexOK C ops base r (i+1) (updS s e.o.dst e.val) (updW h e.wr)
def endS:List Ent→Slots→Slots
 | [],s=>s
 | e::r,s=>endS r (updS s e.o.dst e.val)
def endH:List Ent→Heap→Heap
 | [],h=>h
 | e::r,h=>endH r (updW h e.wr)
section
variable {C:Cx}{ti:Types}
theorem drawOps_ents (hti:TIok C.P ti) (h1:TIone ti) {ops:Array Oper}{base:Nat}{K:St→List Fp→Prop}:∀(l:List Oper) (i:Nat) (σ:St) (fps:List Fp),
  ops.toList.drop i=l→drawOps C.M ti C.nt ops base l i σ fps K→
  ∃(es:List Ent) (σ':St),es.map (·.o)=l∧LexOK C ops base es i (getS σ.slots) (getH σ.heap)∧getS σ'.slots=endS es (getS σ.slots)∧getH σ'.heap=endH es (getH σ.heap)∧
   σ'.next=base+32*(i+l.length)∧K σ' (fps++es.map fun e=>(e.rd,e.wr.map (·.1)))
 | [],i,σ,fps,_,hk=>⟨[],⟨σ.slots,σ.heap,base+32*i⟩,rfl,trivial,rfl,rfl,by simp,by simpa using (show K ⟨σ.slots,σ.heap,base+32*i⟩ fps from hk)⟩
 | o::r,i,σ,fps,hl,hk=>by
  have hi:ops[i]?=some o:=by
   have:=congrArg (fun l=>l[0]?) hl
   simpa using this
  have hr:ops.toList.drop (i+1)=r:=by
   have:=congrArg List.tail hl
   simpa using this
  have run:∀(g:guardIs ops ⟨o,true,.u,[],[]⟩ (getS σ.slots)),(storeOK o<| dstOK C.nt o.dst<| opOut C.M ti o (base+32*i) (getS σ.slots) (getH σ.heap) fun out=>
    drawOps C.M ti C.nt ops base r (i+1) ⟨putS σ.slots o.dst out.val,setW σ.heap out.wr,σ.next⟩ (fps++[(out.rd,out.wr.map (·.1))]) K)→
    ∃(es:List Ent) (σ':St),es.map (·.o)=o::r∧LexOK C ops base es i (getS σ.slots) (getH σ.heap)∧getS σ'.slots=endS es (getS σ.slots)∧getH σ'.heap=endH es (getH σ.heap)∧
     σ'.next=base+32*(i+(o::r).length)∧K σ' (fps++es.map fun e=>(e.rd,e.wr.map (·.1))):=by
   intro g hk
   obtain⟨hst,hnd,hk⟩:=storeOK_iff hk
   obtain⟨hd,hk⟩:=dstOK_iff.1 hk
   obtain⟨out,hk,hok⟩:=opOut_sound hti h1 hst.1 hst.2 hk
   obtain⟨es,σ',e1,e2,e3,e4,e5,e6⟩:=drawOps_ents hti h1 r (i+1) _ _ hr hk
   rw[getS_putS]at e2 e3
   rw[getH_setW]at e2 e4
   refine⟨⟨o,true,out.val,out.rd,out.wr⟩::es,σ',by simp[e1],⟨hi,hd,g,fun _=>⟨hnd,hok⟩,fun e=>by simp at e,e2⟩,e3,e4,by rw[e5];simp;omega,?_⟩
   simpa using e6
  have skip:∀(g:guardIs ops ⟨o,false,.t [],[],[]⟩ (getS σ.slots)),(dstOK C.nt o.dst (drawOps C.M ti C.nt ops base r (i+1) ⟨putS σ.slots o.dst (.t []),σ.heap,σ.next⟩ (fps++[([],[])]) K))→
    ∃(es:List Ent) (σ':St),es.map (·.o)=o::r∧LexOK C ops base es i (getS σ.slots) (getH σ.heap)∧getS σ'.slots=endS es (getS σ.slots)∧getH σ'.heap=endH es (getH σ.heap)∧
     σ'.next=base+32*(i+(o::r).length)∧K σ' (fps++es.map fun e=>(e.rd,e.wr.map (·.1))):=by
   intro g hk
   obtain⟨hd,hk⟩:=dstOK_iff.1 hk
   obtain⟨es,σ',e1,e2,e3,e4,e5,e6⟩:=drawOps_ents hti h1 r (i+1) _ _ hr hk
   rw[getS_putS]at e2 e3
   refine⟨⟨o,false,.t [],[],[]⟩::es,σ',by simp[e1],⟨hi,hd,g,fun e=>by simp at e,fun _=>⟨rfl,rfl,rfl⟩,e2⟩,e3,e4,by rw[e5];simp;omega,?_⟩
   simpa using e6
  have hk':guarded ops o σ _ _:=hk
  unfold guarded at hk'
  split at hk'
  ·rename_i hg
   exact run (by simp[guardIs,hg]) hk'
  ·rename_i j want hg
   split at hk'
   ·exact hk'.elim
   ·rename_i d hd
    split at hk'
    ·rename_i c hc
     cases want<;>cases c
     ·exact run (by simp only[guardIs,hg];exact⟨d,hd,.inl hc⟩) hk'
     ·exact skip (by simp only[guardIs,hg];exact⟨d,hd,.inl hc⟩) hk'
     ·exact skip (by simp only[guardIs,hg];exact⟨d,hd,.inl hc⟩) hk'
     ·exact run (by simp only[guardIs,hg];exact⟨d,hd,.inl hc⟩) hk'
    ·rename_i hc
     exact skip (by simp only[guardIs,hg];exact⟨d,hd,.inr ⟨trivial,hc⟩⟩) hk'
    ·exact hk'.elim
def setS (S:Nat→Bool):List Ent→Nat→Slots→Slots
 | [],_,s=>s
 | e::r,i,s=>setS S r (i+1) (if S i then updS s e.o.dst e.val else s)
def setHp (S:Nat→Bool):List Ent→Nat→Heap→Heap
 | [],_,h=>h
 | e::r,i,h=>setHp S r (i+1) (if S i then updW h e.wr else h)
theorem updS_at {s s':Slots}{d:Option Tmp}{v:AV}{t:Nat}(h:d≠some t→s t=s' t):updS s d v t=updS s' d v t:=by
 cases d with
 | none=>exact h (by simp)
 | some d=>
  simp only[updS]
  by_cases ht:t=d
  ·simp[ht]
  ·simp only[if_neg ht];exact h (by simp;exact fun e=>ht e.symm)
theorem updS_off {s:Slots}{d:Option Tmp}{v:AV}{t:Nat}(h:d≠some t):updS s d v t=s t:=by
 cases d with
 | none=>rfl
 | some d=>
  simp only[updS]
  rw[if_neg]
  exact fun e=>h (by rw[e])
theorem updW_at {h h':Heap}{i:Id}:∀{wr:List (Id×AObj)},(i∉wr.map (·.1)→h i=h' i)→updW h wr i=updW h' wr i:=by
 intro wr
 induction wr generalizing h h' with
 | nil=>intro hh;exact hh (by simp)
 | cons x wr ih=>
  intro hh
  refine ih fun hn=>?_
  simp only[updO]
  by_cases hi:i=x.1
  ·simp[hi]
  ·simp only[if_neg hi]
   exact hh (by simp[hi];simpa using hn)
theorem setS_agree {S S':Nat→Bool}{t:Nat}:∀(es:List Ent) (i:Nat) (s s':Slots),s t=s' t→(∀k e,es[k]?=some e→e.o.dst=some t→S (i+k)=S' (i+k))→
  setS S es i s t=setS S' es i s' t
 | [],i,s,s',h,_=>h
 | e::r,i,s,s',h,hw=>by
  refine setS_agree r (i+1) _ _ ?_ (fun k e' hk hd=>by have:=hw (k+1) e' (by simpa using hk) hd;rw[show i+1+k=i+(k+1)from by omega];exact this)
  by_cases hd:e.o.dst=some t
  ·have:=hw 0 e rfl hd
   simp only[Nat.add_zero]at this
   rw[this]
   cases S' i
   ·exact h
   ·exact updS_at (fun _=>h)
  ·cases S i<;>cases S' i<;>simp[updS_off hd,h]
theorem setHp_agree {S S':Nat→Bool}{x:Id}:∀(es:List Ent) (i:Nat) (h h':Heap),h x=h' x→(∀k e,es[k]?=some e→x∈e.wr.map (·.1)→S (i+k)=S' (i+k))→
  setHp S es i h x=setHp S' es i h' x
 | [],i,h,h',hh,_=>hh
 | e::r,i,h,h',hh,hw=>by
  refine setHp_agree r (i+1) _ _ ?_ (fun k e' hk hd=>by have:=hw (k+1) e' (by simpa using hk) hd;rw[show i+1+k=i+(k+1)from by omega];exact this)
  by_cases hd:x∈e.wr.map (·.1)
  ·have:=hw 0 e rfl hd
   simp only[Nat.add_zero]at this
   rw[this]
   cases S' i
   ·exact hh
   ·exact updW_at (fun _=>hh)
  ·have e1:updW h e.wr x=h x:=updW_notin hd
   have e2:updW h' e.wr x=h' x:=updW_notin hd
   cases S i<;>cases S' i<;>simp[e1,e2,hh]
theorem setS_add {S S':Nat→Bool}{t:Nat}{n:Nat}{en:Ent}:∀(es:List Ent) (i:Nat) (s:Slots),es[n]?=some en→S (i+n)=false→S' (i+n)=true→(∀k,k≠i+n→S' k=S k)→
  (en.o.dst=some t→∀k e,es[k]?=some e→e.o.dst=some t→n<k→S (i+k)=false)→setS S' es i s t=updS (setS S es i s) en.o.dst en.val t
 | [],i,s,hn,_,_,_,_=>by simp at hn
 | e::r,i,s,hn,h0,h1,hS,hb=>by
  cases n with
  | zero=>
   simp at hn
   subst hn
   simp only[Nat.add_zero]at h0 h1
   show setS S' r (i+1) (if S' i then updS s e.o.dst e.val else s) t=updS (setS S r (i+1) (if S i then updS s e.o.dst e.val else s)) e.o.dst e.val t
   rw[h0,h1]
   simp only[if_true,Bool.false_eq_true,if_false]
   have same:∀s',setS S' r (i+1) s' t=setS S r (i+1) s' t:=fun s'=>setS_agree r (i+1) s' s' rfl (fun k e' _ _=>hS _ (by omega))
   rw[same]
   by_cases hd:e.o.dst=some t
   ·have none:∀s':Slots,setS S r (i+1) s' t=s' t:=by
     intro s'
     have z:∀(l:List Ent) (m:Nat) (s':Slots),(∀k e,l[k]?=some e→e.o.dst=some t→S (m+k)=false)→setS S l m s' t=s' t:=by
      intro l
      induction l with
      | nil=>intro m s' _;rfl
      | cons e l ih=>
       intro m s' hz
       show setS S l (m+1) (if S m then updS s' e.o.dst e.val else s') t=_
       rw[ih (m+1) _ (fun k e' hk hd=>by have:=hz (k+1) e' (by simpa using hk) hd;rw[show m+1+k=m+(k+1)from by omega];exact this)]
       by_cases hd:e.o.dst=some t
       ·have:=hz 0 e rfl hd
        simp only[Nat.add_zero]at this
        simp[this]
       ·split
        ·exact updS_off hd
        ·rfl
     exact z r (i+1) s' (fun k e' hk hd'=>by
      have:=hb hd (k+1) e' (by simpa using hk) hd' (by omega)
      rw[show i+1+k=i+(k+1)from by omega];exact this)
    rw[none,hd]
    simp[updS]
   ·rw[updS_off hd]
    exact setS_agree r (i+1) _ _ (updS_off hd) (fun _ _ _ _=>rfl)
  | succ n=>
   have e1:S' i=S i:=hS i (by omega)
   show setS S' r (i+1) (if S' i then updS s e.o.dst e.val else s) t=_
   rw[e1]
   refine setS_add r (i+1) _ (by simpa using hn) (by rw[show i+1+n=i+(n+1)from by omega];exact h0) (by rw[show i+1+n=i+(n+1)from by omega];exact h1)
    (fun k hk=>hS k (by omega)) (fun hd k e' hk hd' hlt=>?_)
   have:=hb hd (k+1) e' (by simpa using hk) hd' (by omega)
   rw[show i+1+k=i+(k+1)from by omega];exact this
theorem setHp_add {S S':Nat→Bool}{x:Id}{n:Nat}{en:Ent}:∀(es:List Ent) (i:Nat) (s:Heap),es[n]?=some en→S (i+n)=false→S' (i+n)=true→(∀k,k≠i+n→S' k=S k)→
  (x∈en.wr.map (·.1)→∀k e,es[k]?=some e→x∈e.wr.map (·.1)→n<k→S (i+k)=false)→setHp S' es i s x=updW (setHp S es i s) en.wr x
 | [],i,s,hn,_,_,_,_=>by simp at hn
 | e::r,i,s,hn,h0,h1,hS,hb=>by
  cases n with
  | zero=>
   simp at hn
   subst hn
   simp only[Nat.add_zero]at h0 h1
   show setHp S' r (i+1) (if S' i then updW s e.wr else s) x=updW (setHp S r (i+1) (if S i then updW s e.wr else s)) e.wr x
   rw[h0,h1]
   simp only[if_true,Bool.false_eq_true,if_false]
   have same:∀s',setHp S' r (i+1) s' x=setHp S r (i+1) s' x:=fun s'=>setHp_agree r (i+1) s' s' rfl (fun k e' _ _=>hS _ (by omega))
   rw[same]
   by_cases hd:x∈e.wr.map (·.1)
   ·have none:∀s':Heap,setHp S r (i+1) s' x=s' x:=by
     intro s'
     have z:∀(l:List Ent) (m:Nat) (s':Heap),(∀k e,l[k]?=some e→x∈e.wr.map (·.1)→S (m+k)=false)→setHp S l m s' x=s' x:=by
      intro l
      induction l with
      | nil=>intro m s' _;rfl
      | cons e l ih=>
       intro m s' hz
       show setHp S l (m+1) (if S m then updW s' e.wr else s') x=_
       rw[ih (m+1) _ (fun k e' hk hd=>by have:=hz (k+1) e' (by simpa using hk) hd;rw[show m+1+k=m+(k+1)from by omega];exact this)]
       by_cases hd:x∈e.wr.map (·.1)
       ·have:=hz 0 e rfl hd
        simp only[Nat.add_zero]at this
        simp[this]
       ·split
        ·exact updW_notin hd
        ·rfl
     exact z r (i+1) s' (fun k e' hk hd'=>by
      have:=hb hd (k+1) e' (by simpa using hk) hd' (by omega)
      rw[show i+1+k=i+(k+1)from by omega];exact this)
    rw[none]
    exact updW_at (fun hn=>absurd hd hn)
   ·rw[updW_notin hd]
    exact setHp_agree r (i+1) _ _ (updW_notin hd) (fun _ _ _ _=>rfl)
  | succ n=>
   have e1:S' i=S i:=hS i (by omega)
   show setHp S' r (i+1) (if S' i then updW s e.wr else s) x=_
   rw[e1]
   refine setHp_add r (i+1) _ (by simpa using hn) (by rw[show i+1+n=i+(n+1)from by omega];exact h0) (by rw[show i+1+n=i+(n+1)from by omega];exact h1)
    (fun k hk=>hS k (by omega)) (fun hd k e' hk hd' hlt=>?_)
   have:=hb hd (k+1) e' (by simpa using hk) hd' (by omega)
   rw[show i+1+k=i+(k+1)from by omega];exact this
end
end Go.AM
namespace Go.AM
open Go Go.RowKit
section
variable {C:Cx}{ti:Types}
theorem setS_none {S:Nat→Bool}:∀(es:List Ent) (i:Nat) (s:Slots),(∀k,i≤k→S k=false)→setS S es i s=s
 | [],_,_,_=>rfl
 | e::r,i,s,h=>by
  show setS S r (i+1) (if S i then _ else s)=s
  rw[h i (Nat.le_refl _)]
  exact setS_none r (i+1) s (fun k hk=>h k (by omega))
theorem setHp_none {S:Nat→Bool}:∀(es:List Ent) (i:Nat) (s:Heap),(∀k,i≤k→S k=false)→setHp S es i s=s
 | [],_,_,_=>rfl
 | e::r,i,s,h=>by
  show setHp S r (i+1) (if S i then _ else s)=s
  rw[h i (Nat.le_refl _)]
  exact setHp_none r (i+1) s (fun k hk=>h k (by omega))
theorem setS_all {S:Nat→Bool}:∀(es:List Ent) (i:Nat) (s:Slots),(∀k,k<es.length→S (i+k)=true)→setS S es i s=endS es s
 | [],_,_,_=>rfl
 | e::r,i,s,h=>by
  show setS S r (i+1) (if S i then _ else s)=endS r _
  rw[show S i=true from h 0 (by simp)]
  exact setS_all r (i+1) _ (fun k hk=>by have:=h (k+1) (by simp;omega);rw[show i+1+k=i+(k+1)from by omega];exact this)
theorem setHp_all {S:Nat→Bool}:∀(es:List Ent) (i:Nat) (s:Heap),(∀k,k<es.length→S (i+k)=true)→setHp S es i s=endH es s
 | [],_,_,_=>rfl
 | e::r,i,s,h=>by
  show setHp S r (i+1) (if S i then _ else s)=endH r _
  rw[show S i=true from h 0 (by simp)]
  exact setHp_all r (i+1) _ (fun k hk=>by have:=h (k+1) (by simp;omega);rw[show i+1+k=i+(k+1)from by omega];exact this)
def EntOK (C:Cx) (ops:Array Oper) (base:Nat) (e:Ent) (i:Nat) (s:Slots) (h:Heap):Prop:=
 ops[i]?=some e.o∧(∀d,e.o.dst=some d→d<C.nt)∧guardIs ops e s∧(e.run=true→(∀c,e.o.op≠ .defer c)∧OKop C e.o (base+32*i) s h ⟨e.val,e.rd,e.wr⟩)∧
   (e.run=false→e.val= .t []∧e.wr=[]∧e.rd=[])
theorem lexAt {ops:Array Oper}{base:Nat}(es:List Ent):∀(m n:Nat) (s:Slots) (h:Heap) (e:Ent),LexOK C ops base es m s h→es[n]?=some e→
  EntOK C ops base e (m+n) (setS (fun k=>decide (k<m+n)) es m s) (setHp (fun k=>decide (k<m+n)) es m h):=by
 induction es with
 | nil=>intro m n s h e _ hn;simp at hn
 | cons x r ih=>
  intro m n s h e hl hn
  cases n with
  | zero=>
   simp at hn
   subst hn
   have e1:setS (fun k=>decide (k<m+0)) (x::r) m s=s:=setS_none _ _ _ (fun k hk=>by simp;omega)
   have e2:setHp (fun k=>decide (k<m+0)) (x::r) m h=h:=setHp_none _ _ _ (fun k hk=>by simp;omega)
   rw[e1,e2]
   exact⟨hl.1,hl.2.1,hl.2.2.1,hl.2.2.2.1,hl.2.2.2.2.1⟩
  | succ n=>
   have:=ih (m+1) n _ _ e hl.2.2.2.2.2 (by simpa using hn)
   rw[show m+1+n=m+(n+1)from by omega]at this
   have e1:setS (fun k=>decide (k<m+(n+1))) (x::r) m s=setS (fun k=>decide (k<m+(n+1))) r (m+1) (updS s x.o.dst x.val):=by
    show setS _ r (m+1) (if decide (m<m+(n+1))then _ else _)=_
    rw[if_pos (by simp)]
   have e2:setHp (fun k=>decide (k<m+(n+1))) (x::r) m h=setHp (fun k=>decide (k<m+(n+1))) r (m+1) (updW h x.wr):=by
    show setHp _ r (m+1) (if decide (m<m+(n+1))then _ else _)=_
    rw[if_pos (by simp)]
   rw[e1,e2]
   exact this
theorem RelS.drew {F:Nat→Prop}{s:Slots}{h:Heap}{g:Ghost}{a:Act}{w:World}(R:RelS C F s h g a w):RelS C F s h g a {w with drawn:=w.drawn+1}:=by
 have E:Evo w (zor (zone g h) C.X) g h {w with drawn:=w.drawn+1} (zor (zone g h) C.X) g h:=
  ⟨fun b o u hu hz=>⟨hu,hz⟩,fun _ _ _=>rfl,fun _ _ _=>rfl,fun _ hi=>hi,fun i n sz e _ hn=>⟨n,Nat.le_refl _,hn,fun _=>rfl⟩,fun _ hi=>hi,fun i _ hn=>⟨hn,rfl⟩⟩
 refine R.step (fun _=>False) E ⟨rfl,rfl,rfl,Nat.le_refl _,fun _ _ _=>rfl,fun _ _ _ hu _=>hu⟩ (fun _ _=>⟨rfl,rfl⟩) (fun _ _ _ _ _ _=>rfl) (fun _ _ h=>h.elim) (fun _ _ _ _ h=>h.elim)
  (fun _ _ _ _ _ h=>h.elim) (fun _ h=>h.elim) R.free
theorem filter_one {p p':Nat→Bool}{i:Nat}:∀{l:List Nat},l.Nodup→i∈l→p i=true→p' i=false→(∀k,k≠i→p' k=p k)→(l.filter p').length+1=(l.filter p).length
 | x::l,hn,hi,h1,h0,hs=>by
  have hn':=List.nodup_cons.1 hn
  by_cases hx:x=i
  ·subst hx
   have:l.filter p'=l.filter p:=List.filter_congr fun k hk=>hs k (fun e=>hn'.1 (e▸hk))
   simp[h1,h0,this]
  ·have hil:i∈l:=(List.mem_cons.1 hi).resolve_left (fun e=>hx e.symm)
   have ih:=filter_one hn'.2 hil h1 h0 hs
   have:=hs x hx
   simp only[List.filter_cons,this]
   split<;>simp[ih]
theorem meet_iff {a b:List Nat}{x:Nat}(ha:x∈a) (hb:x∈b):meet a b=true:=by
 simp only[meet,List.any_eq_true]
 exact⟨x,ha,x,hb,by simp⟩
theorem meetI_iff {a b:List Id}{x:Id}(ha:x∈a) (hb:x∈b):meetI a b=true:=by
 simp only[meetI,List.any_eq_true]
 exact⟨x,ha,x,hb,Id.beq_iff.2 rfl⟩
theorem tmpsOf_mem {t:Nat}:∀{l:List Operand},Operand.tmp t∈l→t∈tmpsOf l
 | .tmp x::l,h=>by
  rcases List.mem_cons.1 h with h | h
  ·simp at h;subst h;simp[tmpsOf]
  ·simp[tmpsOf,tmpsOf_mem h]
 | .const v::l,h=>by simp[tmpsOf,tmpsOf_mem ((List.mem_cons.1 h).resolve_left (by simp))]
 | .global v::l,h=>by simp[tmpsOf,tmpsOf_mem ((List.mem_cons.1 h).resolve_left (by simp))]
 | .func v::l,h=>by simp[tmpsOf,tmpsOf_mem ((List.mem_cons.1 h).resolve_left (by simp))]
theorem number_get (l:List Oper):∀(fs:List Fp) (i n:Nat) (o:Oper) (f:Fp),l[n]?=some o→fs[n]?=some f→(i+n,o,f)∈number l fs i:=by
 induction l with
 | nil=>intro fs i n o f h1 _;simp at h1
 | cons x l ih=>
  intro fs i n o f h1 h2
  cases fs with
  | nil=>simp at h2
  | cons y fs=>
   cases n with
   | zero=>simp at h1 h2;subst h1;subst h2;simp[number]
   | succ n=>
    simp at h1 h2
    have:=ih fs (i+1) n o f h1 h2
    rw[show i+1+n=i+(n+1)from by omega]at this
    simp[number,this]
theorem backOK_get (l:List Oper):∀(i n:Nat) (o:Oper) (e:Edge),backOK l i=true→l[n]?=some o→e∈o.after.toList→Region.binds .any e=true→e.on<i+n:=by
 induction l with
 | nil=>intro i n o e _ h1 _ _;simp at h1
 | cons x l ih=>
  intro i n o e h h1 he hb
  simp only[backOK,Bool.and_eq_true,List.all_eq_true]at h
  cases n with
  | zero=>
   simp at h1
   subst h1
   have:=h.1 e he
   simpa [hb] using this
  | succ n=>
   simp at h1
   have:=ih (i+1) n o e h.2 h1 he hb
   omega
theorem draw_any (hti:TIok C.P ti) (h1:TIone ti) (ops:Array Oper) (σ:St) (K:St→Prop) (Q:Exit→Act→World→Prop) (a:Act) (w:World)
  (hQ:∀σ a w,K σ→RelSt C σ a w→Q .normal a w) (hk:execDraw ti C.M C.nt ops σ K) (R:RelSt C σ a w):
  wpAnyIn (fenceOf C.ro) 0 C.P .any ops Q ops.size (Array.replicate ops.size false) a {w with drawn:=w.drawn+1}:=by
 obtain⟨es,σ',e1,hlex,e3,e4,e5,hlock,hK⟩:=drawOps_ents hti h1 ops.toList 0 σ [] rfl hk
 have hB:=(C.M.lock_iff _).1 hlock
 simp only[List.nil_append]at hB
 simp only[drawB,Bool.and_eq_true,Nat.beq_eq]at hB
 obtain⟨hlen,hback,hpairs⟩:=hB
 have hlen:es.length=ops.size:=by simpa using congrArg List.length e1
 have hes:∀(n:Nat) e,es[n]?=some e→ops.toList[n]?=some e.o:=by
  intro n e he
  rw[←e1];simp[he]
 have ahead:∀(i j:Nat) ei ej,es[i]?=some ei→es[j]?=some ej→i<j→(slotConf ops ei.o ej.o || idConf (ei.rd,ei.wr.map (·.1)) (ej.rd,ej.wr.map (·.1)))=true→Ahead ops.toList i j:=by
  intro i j ei ej hi hj hlt hc
  have m1:=number_get ops.toList (es.map fun e=>(e.rd,e.wr.map (·.1))) 0 i _ _ (hes i ei hi) (by simp[hi];rfl)
  have m2:=number_get ops.toList (es.map fun e=>(e.rd,e.wr.map (·.1))) 0 j _ _ (hes j ej hj) (by simp[hj];rfl)
  simp only[pairsOK,List.all_eq_true]at hpairs
  have:=hpairs _ m1 _ m2
  simp only[Nat.zero_add]at this
  have hb:Nat.blt i j=true:=by simpa using hlt
  rw[hb,hc]at this
  simp only[Bool.not_true,Bool.false_or]at this
  exact masks_bit ops.toList [] rfl (by simp[List.getD]) j i this
 let s0:=getS σ.slots
 let h0:=getH σ.heap
 let base:=σ.next
 let Sof:Array Bool→Nat→Bool:=fun listed k=>listed.getD k false
 have main:∀(fuel:Nat) (listed:Array Bool) (a:Act) (w:World),listed.size=ops.size→
   ((List.range ops.size).filter (fun k=>!Sof listed k)).length=fuel→
   (∀i j,Ahead ops.toList i j→Sof listed j=true→Sof listed i=true)→
   Rel C (fun n=>base≤n∧∀i,Sof listed i=true→¬(base+32*i≤n∧n<base+32*i+32)) (setS (Sof listed) es 0 s0) (setHp (Sof listed) es 0 h0) a w→
   wpAnyIn (fenceOf C.ro) 0 C.P .any ops Q fuel listed a w:=by
  intro fuel
  induction fuel with
  | zero=>
   intro listed a w hsz hcnt hcl R
   have hall:∀k,k<ops.size→Sof listed k=true:=by
    intro k hk
    have:=List.eq_nil_of_length_eq_zero hcnt
    cases hs:Sof listed k with
    | true=>rfl
    | false=>
     have:k∈(List.range ops.size).filter (fun k=>!Sof listed k):=by simp[hk,hs]
     rw[List.eq_nil_of_length_eq_zero hcnt]at this
     simp at this
   refine⟨?_,?_⟩
   ·cases hr:Region.ready .any ops listed with
    | nil=>rfl
    | cons j l=>
     have hj:j∈Region.ready .any ops listed:=by rw[hr];simp
     obtain⟨h2,o,ho,_⟩:=mem_ready.1 hj
     have hlt:=(Array.getElem?_eq_some_iff.1 ho).1
     have:=hall j hlt
     simp only[Sof]at this
     have hjl:j<listed.size:=by omega
     simp[hjl]at this h2
     rw[this]at h2
     simp at h2
   ·refine hQ σ' a w hK ?_
    have:RelSt C σ' a w↔Rel C (fun n=>σ'.next≤n) (getS σ'.slots) (getH σ'.heap) a w:=Iff.rfl
    rw[this,e3,e4,e5]
    have z1:setS (Sof listed) es 0 s0=endS es s0:=setS_all es 0 s0 (fun k hk=>by rw[Nat.zero_add];exact hall k (by omega))
    have z2:setHp (Sof listed) es 0 h0=endH es h0:=setHp_all es 0 h0 (fun k hk=>by rw[Nat.zero_add];exact hall k (by omega))
    rw[z1,z2]at R
    refine R.free_mono (fun n hn=>?_)
    simp only[Nat.zero_add,Array.length_toList]at hn
    refine⟨by simp only[base];omega,fun i hi=>?_⟩
    have:i<ops.size:=by
     simp only[Sof]at hi
     have hil:i<listed.size:=by
      rcases Nat.lt_or_ge i listed.size with h | h
      ·exact h
      ·simp[Array.getElem?_eq_none h]at hi
     omega
    simp only[base]
    omega
  | succ fuel ih=>
   intro listed a w hsz hcnt hcl R
   have hstep:∀i,i∈Region.ready .any ops listed→wpOpIn (fenceOf C.ro) 0 C.P ops Q i (wpAnyIn (fenceOf C.ro) 0 C.P .any ops Q fuel (listed.setIfInBounds i true)) a w:=by
    intro i hi
    obtain⟨hi0,o,ho,hedges⟩:=mem_ready.1 hi
    have hlt:i<ops.size:=(Array.getElem?_eq_some_iff.1 ho).1
    have hil:i<listed.size:=by omega
    have hS0:Sof listed i=false:=by
     simp[hil]at hi0
     simp[Sof,hil,hi0]
    have hS1:Sof (listed.setIfInBounds i true) i=true:=by simp[Sof,hil]
    have hSo:∀k,k≠i→Sof (listed.setIfInBounds i true) k=Sof listed k:=by
     intro k hk
     simp[Sof,Array.getElem?_setIfInBounds_ne (Ne.symm hk)]
    obtain⟨en,hen⟩:∃en,es[i]?=some en:=⟨es[i],by simp[hlen,hlt]⟩
    have hEnt:=lexAt es 0 i s0 h0 en hlex hen
    rw[Nat.zero_add]at hEnt
    obtain⟨ho',hd,hg,hrun,hskip⟩:=hEnt
    rw[ho]at ho'
    obtain rfl:o=en.o:=by simpa using ho'
    -- who writes what i reads or writes
    have order:∀k e,es[k]?=some e→k≠i→(k<i→(slotConf ops e.o en.o || idConf (e.rd,e.wr.map (·.1)) (en.rd,en.wr.map (·.1)))=true)→
      (i<k→(slotConf ops en.o e.o || idConf (en.rd,en.wr.map (·.1)) (e.rd,e.wr.map (·.1)))=true)→Sof listed k=decide (k<i):=by
     intro k e he hne c1 c2
     by_cases hki:k<i
     ·have ah:=ahead k i e en he hen hki (c1 hki)
      have:Sof listed k=true:=by
       have gen:∀x y,Ahead ops.toList x y→y=i→Sof listed x=true:=by
        intro x y hxy
        induction hxy with
        | edge hj hee hb hei=>
         intro hy
         subst hy
         rw[←hei]
         have:=hes _ en hen
         rw[hj]at this
         simp at this
         subst this
         exact hedges _ (by simpa using hee) hb
        | trans p q ihp ihq=>
         intro hy
         exact hcl _ _ p (ihq hy)
       exact gen k i ah rfl
      simp[this,hki]
     ·have hik:i<k:=by omega
      have ah:=ahead i k en e hen he hik (c2 hik)
      have:Sof listed k=false:=by
       cases hs:Sof listed k with
       | false=>rfl
       | true=>have:=hcl i k ah hs;rw[hS0]at this;simp at this
      simp[this,hki]
    have slotAgree:∀t,t∈readsT ops en.o→setS (Sof listed) es 0 s0 t=setS (fun k=>decide (k<i)) es 0 s0 t:=by
     intro t ht
     refine setS_agree es 0 s0 s0 rfl (fun k e he hdst=>?_)
     rw[Nat.zero_add]
     by_cases hki:k=i
     ·subst hki;simp[hS0]
     ·refine order k e he hki (fun _=>?_) (fun _=>?_)
      ·simp[slotConf,meet_iff (x:=t) (a:=e.o.dst.toList) (b:=readsT ops en.o) (by simp[hdst]) ht]
      ·simp[slotConf,meet_iff (x:=t) (a:=readsT ops en.o) (b:=e.o.dst.toList) ht (by simp[hdst])]
    have idAgree:∀x,x∈en.rd→setHp (Sof listed) es 0 h0 x=setHp (fun k=>decide (k<i)) es 0 h0 x:=by
     intro x hx
     refine setHp_agree es 0 h0 h0 rfl (fun k e he hw=>?_)
     rw[Nat.zero_add]
     by_cases hki:k=i
     ·subst hki;simp[hS0]
     ·refine order k e he hki (fun _=>?_) (fun _=>?_)
      ·simp[idConf,meetI_iff (x:=x) (a:=e.wr.map (·.1)) (b:=en.rd) hw hx]
      ·simp[idConf,meetI_iff (x:=x) (a:=en.rd) (b:=e.wr.map (·.1)) hx hw]
    have cl':∀x y,Ahead ops.toList x y→Sof (listed.setIfInBounds i true) y=true→Sof (listed.setIfInBounds i true) x=true:=by
     intro x y hxy hy
     by_cases hx:x=i
     ·rw[hx];exact hS1
     ·rw[hSo x hx]
      by_cases hyi:y=i
      ·subst hyi
       have gen:∀x y',Ahead ops.toList x y'→y'=y→Sof listed x=true:=by
        intro x y' hxy
        induction hxy with
        | edge hj hee hb hei=>
         intro hy
         subst hy
         rw[←hei]
         have:=hes _ en hen
         rw[hj]at this
         simp at this
         subst this
         exact hedges _ (by simpa using hee) hb
        | trans p q ihp ihq=>
         intro hy
         exact hcl _ _ p (ihq hy)
       exact gen x y hxy rfl
      ·rw[hSo y hyi]at hy
       exact hcl x y hxy hy
    have cnt':((List.range ops.size).filter (fun k=>!Sof (listed.setIfInBounds i true) k)).length=fuel:=by
     have:=filter_one (p:=fun k=>!Sof listed k) (p':=fun k=>!Sof (listed.setIfInBounds i true) k) (i:=i) (l:=List.range ops.size) List.nodup_range (by simp[hlt]) (by simp[hS0]) (by simp[hS1])
      (fun k hk=>by simp[hSo k hk])
     omega
    have addS:setS (Sof (listed.setIfInBounds i true)) es 0 s0=updS (setS (Sof listed) es 0 s0) en.o.dst en.val:=by
     funext t
     refine setS_add es 0 s0 hen (by simpa using hS0) (by simpa using hS1) (fun k hk=>hSo k (by omega)) (fun hdst k e he hdst' hik=>?_)
     rw[Nat.zero_add]
     have:=order k e he (by omega) (fun h=>absurd h (by omega)) (fun _=>by simp[slotConf,meet_iff (x:=t) (a:=en.o.dst.toList) (b:=e.o.dst.toList) (by simp[hdst]) (by simp[hdst'])])
     rw[this]
     simp;omega
    have addH:setHp (Sof (listed.setIfInBounds i true)) es 0 h0=updW (setHp (Sof listed) es 0 h0) en.wr:=by
     funext x
     refine setHp_add es 0 h0 hen (by simpa using hS0) (by simpa using hS1) (fun k hk=>hSo k (by omega)) (fun hw k e he hw' hik=>?_)
     rw[Nat.zero_add]
     have:=order k e he (by omega) (fun h=>absurd h (by omega)) (fun _=>by simp[idConf,meetI_iff (x:=x) (a:=en.wr.map (·.1)) (b:=e.wr.map (·.1)) hw hw'])
     rw[this]
     simp;omega
    have next:∀a' w',Rel C (fun n=>(base≤n∧∀i,Sof listed i=true→¬(base+32*i≤n∧n<base+32*i+32))∧¬(base+32*i≤n∧n<base+32*i+32))
      (updS (setS (Sof listed) es 0 s0) en.o.dst en.val) (updW (setHp (Sof listed) es 0 h0) en.wr) a' w'→wpAnyIn (fenceOf C.ro) 0 C.P .any ops Q fuel (listed.setIfInBounds i true) a' w':=by
     intro a' w' R'
     refine ih _ a' w' (by simp[hsz]) cnt' cl' ?_
     rw[addS,addH]
     refine R'.free_mono (fun n hn=>⟨⟨hn.1,fun j hj=>?_⟩,hn.2 i hS1⟩)
     by_cases hji:j=i
     ·subst hji;exact hn.2 j hS1
     ·exact hn.2 j (by rw[hSo j hji];exact hj)
    have hw:Region.wanted en.o (yielded ops a.tmps)=en.run:=by
     unfold guardIs at hg
     split at hg
     ·rename_i hgn
      simp[Region.wanted,hgn,hg]
     ·rename_i j want hgs
      obtain⟨d,hdj,hsd⟩:=hg
      have hmem:d∈readsT ops en.o:=by simp[readsT,hgs,hdj]
      rw[←slotAgree d hmem]at hsd
      rcases hsd with hsd | ⟨hrf,hsd⟩
      rotate_left
      ·have hy:yielded ops a.tmps j=none:=by
        obtain⟨g,R⟩:=R
        have:=R.slots d
        rw[hsd]at this
        obtain⟨vs,hv,_⟩:=this
        exact yields_none' hdj ⟨vs,hv⟩
       simp[Region.wanted,hgs,hy,hrf]
      have hy:yielded ops a.tmps j=some (if en.run then want else !want):=by
       obtain⟨g,R⟩:=R
       have:=R.slots d
       rw[hsd]at this
       have hv:=relB this
       unfold yielded
       rw[hdj]
       have:a.tmps[d]?=some (.bool (if en.run then want else !want)):=by
        rw[Array.getD_eq_getD_getElem?]at hv
        cases h:a.tmps[d]? with
        | none=>rw[h]at hv;simp[undef]at hv
        | some v=>rw[h]at hv;simpa using hv
       simp[this]
      simp only[Region.wanted,hgs,hy]
      cases en.run<;>cases want<;>rfl
    unfold wpOpIn
    rw[ho]
    simp only[]
    cases hr:en.run with
    | true=>
     rw[if_pos (by rw[hw,hr])]
     refine wp_fence (hrun hr).1 (Oper.wp_mono next ?_)
     refine (hrun hr).2 _ _ _ a w Q R (fun t ht=>slotAgree t (by simp[readsT,tmpsOf_mem ht])) idAgree (fun k hk=>⟨by omega,fun j hj=>?_⟩) hd
     by_cases hji:j=i
     ·subst hji;rw[hS0]at hj;simp at hj
     ·omega
    | false=>
     rw[if_neg (by rw[hw,hr];simp)]
     obtain⟨z1,z2,z3⟩:=hskip hr
     refine⟨fun f _=>fenceOf_fn _ f,next _ w ?_⟩
     rw[z1,z2]
     obtain⟨g,R⟩:=R
     refine⟨g,(R.put hd (v:=.t []) ⟨#[],rfl,rfl,by simp⟩).free_mono (fun n hn=>hn.1)⟩
   refine⟨fun hnil=>?_,hstep⟩
   -- not all are listed: the least of those is ready
   exfalso
   have hex:∃k,k<ops.size∧Sof listed k=false:=by
    have:(List.range ops.size).filter (fun k=>!Sof listed k)≠[]:=by intro e;rw[e]at hcnt;simp at hcnt
    obtain⟨k,hk⟩:=List.exists_mem_of_ne_nil _ this
    simp at hk
    exact⟨k,hk.1,hk.2⟩
   obtain⟨k,⟨hk1,hk2⟩,hmin⟩:=least hex
   have:k∈Region.ready .any ops listed:=by
    refine mem_ready.2 ⟨?_,ops[k],by simp[hk1],fun e he hb=>?_⟩
    ·have hkl:k<listed.size:=by omega
     simp only[Sof]at hk2
     simp[hkl]at hk2 ⊢
     exact hk2
    ·have hlt:e.on<0+k:=backOK_get ops.toList 0 k ops[k] e hback (by simp[hk1]) (by simpa using he) hb
     cases hs:Sof listed e.on with
     | true=>exact hs
     | false=>have:=hmin e.on ⟨by omega,hs⟩;omega
   rw[hnil]at this
   simp at this
 refine main ops.size (Array.replicate ops.size false) a _ (by simp) ?_ ?_ ?_
 ·have:(List.range ops.size).filter (fun k=>!Sof (Array.replicate ops.size false) k)=List.range ops.size:=by
   refine List.filter_eq_self.2 fun k hk=>?_
   simp only[Sof,Array.getD_eq_getD_getElem?,Array.getElem?_replicate]
   split<;>rfl
  rw[this];simp
 ·intro i j _ hj
  exfalso
  revert hj
  simp only[Sof,Array.getD_eq_getD_getElem?,Array.getElem?_replicate]
  split<;>simp
 ·have hz:∀k,Sof (Array.replicate ops.size false) k=false:=by intro k;simp only[Sof,Array.getD_eq_getD_getElem?,Array.getElem?_replicate];split<;>rfl
  rw[setS_none es 0 s0 (fun k _=>hz k),setHp_none es 0 h0 (fun k _=>hz k)]
  obtain⟨g,R⟩:=R
  exact⟨g,R.drew.free_mono (fun n hn=>hn.1)⟩
theorem draw_ok (hti:TIok C.P ti) (h1:TIone ti) (hm:C.P.follows .mixedOrders=true):DrawOK C (execDraw ti C.M C.nt):=
 fun _ ops σ K Q a w hQ _ hk R=>wpIn_region_any hm (draw_any hti h1 ops σ K Q a w hQ hk R)
end
end Go.AM
namespace Go.AM
open Go Go.RowKit
theorem RelS.reslot {C:Cx}{F:Nat→Prop}{s:Slots}{h:Heap}{g:Ghost}{a:Act}{w:World}(R:RelS C F s h g a w) (t:Nat) (v:AV) (hr:RelAV w (zor (zone g h) C.X) g h v (a.tmps.getD t undef)) (hv:∀f cs rows,v≠ .df f cs rows:=by simp):
  RelS C F (updS s (some t) v) h g a w:=by
 have hdf:DefOK w (zor (zone g h) C.X) g C.M.cl (updS s (some t) v DT) a.defers C.D:=by
  simp only[updS]
  split
  ·exact R.defers.un hv
  ·exact R.defers
 refine {R with slots:=fun t'=>?_,defers:=hdf}
 simp only[updS]
 split
 ·subst_vars;exact hr
 ·exact R.slots t'
theorem RelS.tok0 {C:Cx}{F:Nat→Prop}{s:Slots}{h:Heap}{g:Ghost}{a:Act}{w:World}(R:RelS C F s h g a w) {n:Nat}(hf:F n) (ag:Bool) {sz:Nat}(hsz:0<sz) (e:TypeId):
  RelS C (fun k=>F k∧k≠n) s (updO h (.loc n) (.tok 0 sz e)) (updG g (.loc n) (.slice none 0 0)) a w∧
   RelC w (zor (zone (updG g (.loc n) (.slice none 0 0)) (updO h (.loc n) (.tok 0 sz e))) C.X) (updG g (.loc n) (.slice none 0 0)) (updO h (.loc n) (.tok 0 sz e)) (.lst (.loc n) ag sz []) (.slice none 0 0):=
 R.owned (out:=[]) (zs:=[]) hf ⟨rfl,rfl,rfl,Nat.le_refl _,fun _ _ _=>rfl⟩ hsz (World.ownsRow_nil w _ e sz) (by simp) (by simp)
def tokSlot (t:Nat) (ag:Bool) (sz:Nat) (e:TypeId) (σ:St):St:=
 ⟨(t,.v (.c (.lst (.loc σ.next) ag sz [])))::σ.slots,setH σ.heap (.loc σ.next) (.tok 0 sz e),σ.next+32⟩
theorem weak_tokSlot {t:Nat}{ag:Bool}{sz:Nat}{e:TypeId}{σ:St}(hsz:Nat.blt 0 sz=true) (ht:getS σ.slots t= .v (.c (.nils ag sz))):Weak σ (tokSlot t ag sz e σ):=by
 rintro C a w ⟨g,R⟩
 have hv:=R.slots t
 rw[ht]at hv
 have hv:a.tmps.getD t undef= .slice none 0 0:=hv
 obtain⟨R',hl⟩:=R.tok0 (n:=σ.next) (Nat.le_refl _) ag (sz:=sz) (by simp[Nat.blt]at hsz;omega) e
 have R2:=(R'.reslot t (.v (.c (.lst (.loc σ.next) ag sz []))) (by rw[hv];exact hl)).free_mono (F':=fun n=>σ.next+32≤n) (fun n hn=>⟨by omega,by omega⟩)
 refine⟨updG g (.loc σ.next) (.slice none 0 0),?_⟩
 simp only[tokSlot,getS_cons,getH_setH]
 exact R2
def setNth {α:Type}:List α→Nat→α→List α
 | [],_,_=>[]
 | x::r,n,y=>match n with
  | 0=>y::r
  | m+1=>x::setNth r m y
theorem setNth_eq {α:Type}:∀(l:List α) (n:Nat) (y:α),setNth l n y=l.set n y
 | [],_,_=>rfl
 | _::_,0,_=>rfl
 | x::r,n+1,y=>by simp[setNth,setNth_eq r n y]
def tokCell (i:Id) (j:Nat) (ag:Bool) (sz:Nat) (e:TypeId) (σ:St):St:=
 match getH σ.heap i with
 | some (.cells cs)=>⟨σ.slots,setH (setH σ.heap (.loc σ.next) (.tok 0 sz e)) i (.cells (setNth cs j (.lst (.loc σ.next) ag sz []))),σ.next+32⟩
 | _=>σ
theorem weak_tokCell {i:Id}{j:Nat}{ag:Bool}{sz:Nat}{e:TypeId}{σ:St}{cs:List CV}(hsz:Nat.blt 0 sz=true) (hi:getH σ.heap i=some (.cells cs)) (hj:cs[j]?=some (.nils ag sz)):Weak σ (tokCell i j ag sz e σ):=by
 rintro C a w ⟨g,R⟩
 obtain⟨R',hl⟩:=R.tok0 (n:=σ.next) (Nat.le_refl _) ag (sz:=sz) (by simp[Nat.blt]at hsz;omega) e
 have hne:i≠ .loc σ.next:=by
  rintro rfl
  have:=(R.free σ.next (Nat.le_refl _)).2
  rw[this]at hi;cases hi
 have hi':updO (getH σ.heap) (.loc σ.next) (.tok 0 sz e) i=some (.cells cs):=by simp[updO,hne,hi]
 obtain⟨b,c,et,hb,hh,hsz2,hr⟩:=R'.heap.objs i _ hi'
 have R2:=R'.store (cs':=cs.set j (.lst (.loc σ.next) ag sz [])) hi' hb hh (c':=c) (by simp[hsz2]) (fun k x u hx hu=>by
  by_cases hk:k=j
  ·subst hk
   have hlt:k<cs.length:=(List.getElem?_eq_some_iff.1 hj).1
   rw[List.getElem?_set_self hlt]at hx
   cases hx
   have:=hr k _ u hj hu
   rw[show u=_ from this]
   exact hl
  ·rw[List.getElem?_set_ne (by omega)]at hx
   exact hr k x u hx hu)
 have hw:w.setRow b c=w:=setRow_self w b c _ _ hh
 rw[hw]at R2
 have R3:=R2.free_mono (F':=fun n=>σ.next+32≤n) (fun n hn=>⟨by omega,by omega⟩)
 refine⟨updG g (.loc σ.next) (.slice none 0 0),?_⟩
 simp only[tokCell,hi,getH_setH,setNth_eq]
 exact R3
def isNils (ag:Bool) (sz:Nat):CV→Bool
 | .nils a s=>(a==ag)&&Nat.beq s sz
 | _=>false
def isNilsA (ag:Bool) (sz:Nat):AV→Bool
 | .v (.c c)=>isNils ag sz c
 | _=>false
def nthC:List CV→Nat→CV
 | [],_=>.un
 | x::r,n=>match n with
  | 0=>x
  | m+1=>nthC r m
theorem isNils_eq {ag:Bool}{sz:Nat}{c:CV}(h:isNils ag sz c=true):c= .nils ag sz:=by
 cases c<;>simp[isNils]at h
 obtain⟨rfl,h⟩:=h
 rw[h]
theorem nthC_get:∀{cs:List CV}{j:Nat}{ag:Bool}{sz:Nat},isNils ag sz (nthC cs j)=true→cs[j]?=some (.nils ag sz)
 | [],j,ag,sz,h=>by simp[nthC,isNils]at h
 | x::r,0,ag,sz,h=>by simpa using isNils_eq (by simpa [nthC] using h)
 | x::r,j+1,ag,sz,h=>by simpa using nthC_get (cs:=r) (j:=j) (by simpa [nthC] using h)
theorem Weak.trans {a b c:St}(h1:Weak a b) (h2:Weak b c):Weak a c:=fun C x w r=>h2 C x w (h1 C x w r)
theorem Weak.refl (a:St):Weak a a:=fun _ _ _ r=>r
end Go.AM
namespace Go.AM
open Go Go.RowKit
def slSub (c:CV) (j:Id) (n:Nat):CV:=
 match c with
 | .d (.list ag sz rows)=>match Nat.beq rows.length n with
  | true=>.d (.list ag sz rows)
  | false=>.sl j n
 | _=>.sl j n
def CV.sub (x:CV) (i:Id) (c:CV):CV:=
 match x with
 | .ow j=>match Id.beq j i with
  | true=>c
  | false=>.ow j
 | .sl j n=>match Id.beq j i with
  | true=>slSub c j n
  | false=>.sl j n
 | x=>x
def isM (i:Id) (c:CV):CV→Prop
 | .ow j=>j=i
 | .sl j n=>j=i∧∃ag sz rows,c= .d (.list ag sz rows)∧rows.length=n
 | _=>False
def subs (i:Id) (c:CV):List CV→List CV
 | []=>[]
 | x::r=>x.sub i c::subs i c r
def V1.sub (i:Id) (c:CV) (x:V1):V1:=
 match x with
 | .d x=>.d x
 | .c x=>match x.sub i c with
  | .d y=>.d y
  | y=>.c y
 | .agg cs=>.agg (subs i c cs)
def subV (i:Id) (c:CV):List V1→List V1
 | []=>[]
 | x::r=>x.sub i c::subV i c r
def AV.sub (i:Id) (c:CV) (x:AV):AV:=
 match x with
 | .u=>.u
 | .v x=>.v (x.sub i c)
 | .t xs=>.t (subV i c xs)
 | .df f cs rows=>.df f cs rows
def AObj.sub (i:Id) (c:CV) (o:AObj):AObj:=
 match o with
 | .cells cs=>.cells (subs i c cs)
 | .tree kd ag sz rows foc=>.tree kd ag sz rows (match foc with
  | some x=>some (x.1,subs i c x.2)
  | none=>none)
 | o=>o
theorem subs_eq {i:Id}{c:CV}:∀{l:List CV},subs i c l=l.map (fun x=>x.sub i c)
 | []=>rfl
 | x::l=>by simp[subs,subs_eq (l:=l)]
theorem subV_eq {i:Id}{c:CV}:∀{l:List V1},subV i c l=l.map (V1.sub i c)
 | []=>rfl
 | x::l=>by simp[subV,subV_eq (l:=l)]
section
variable {C:Cx}{F:Nat→Prop}{s:Slots}{h:Heap}{g:Ghost}{a:Act}{w:World}
theorem relC_sub {w':World}{Z Z':Zone}{g':Ghost}{h':Heap}{i:Id}{c:CV}(hE:∀{x:CV}{v:Value},RelC w Z g h x v→RelC w' Z' g' h' x v) (hc:∀x v,isM i c x→RelC w Z g h x v→RelC w' Z' g' h' c v) {x:CV}{v:Value}(r:RelC w Z g h x v):
  RelC w' Z' g' h' (x.sub i c) v:=by
 unfold CV.sub
 split
 ·rename_i j
  cases e:Id.beq j i with
  | true=>exact hc (.ow j) v (Id.beq_iff.1 e:j=i) r
  | false=>exact hE r
 ·rename_i j n
  cases e:Id.beq j i with
  | true=>
   show RelC w' Z' g' h' (slSub c j n) v
   unfold slSub
   split
   ·rename_i ag sz rows
    cases e2:Nat.beq rows.length n with
    | true=>exact hc (.sl j n) v ⟨Id.beq_iff.1 e,ag,sz,rows,rfl,Nat.eq_of_beq_eq_true e2⟩ r
    | false=>exact hE r
   ·exact hE r
  | false=>exact hE r
 ·exact hE r
theorem relV1_sub {w':World}{Z Z':Zone}{g':Ghost}{h':Heap}{i:Id}{c:CV}(hE:∀{x:CV}{v:Value},RelC w Z g h x v→RelC w' Z' g' h' x v) (hD:∀{x:D}{v:Value},RelD w Z x v→RelD w' Z' x v) (hc:∀x v,isM i c x→RelC w Z g h x v→RelC w' Z' g' h' c v) {x:V1}{v:Value}(r:RelV1 w Z g h x v):
  RelV1 w' Z' g' h' (x.sub i c) v:=by
 cases x with
 | d x=>exact hD r
 | c x=>
  have:=relC_sub hE hc (x:=x) r
  show RelV1 w' Z' g' h' (match x.sub i c with | .d y=>.d y | y=>.c y) v
  split
  ·rename_i y hy
   rw[hy]at this
   exact this.1
  ·exact this
 | agg cs=>
  obtain⟨vs,hv,hs,hr⟩:=r
  refine⟨vs,hv,by rw[subs_eq];simpa using hs,fun j y u hy hu=>?_⟩
  rw[subs_eq,List.getElem?_map,Option.map_eq_some_iff]at hy
  obtain⟨x,hx,rfl⟩:=hy
  exact relC_sub hE hc (hr j x u hx hu)
theorem relAV_sub {w':World}{Z Z':Zone}{g':Ghost}{h':Heap}{i:Id}{c:CV}(hE:∀{x:CV}{v:Value},RelC w Z g h x v→RelC w' Z' g' h' x v) (hD:∀{x:D}{v:Value},RelD w Z x v→RelD w' Z' x v) (hc:∀x v,isM i c x→RelC w Z g h x v→RelC w' Z' g' h' c v) {x:AV}{v:Value}(r:RelAV w Z g h x v):
  RelAV w' Z' g' h' (x.sub i c) v:=by
 cases x with
 | u=>trivial
 | v x=>exact relV1_sub hE hD hc r
 | t xs=>
  obtain⟨vs,hv,hs,hr⟩:=r
  refine⟨vs,hv,by rw[subV_eq];simpa using hs,fun j y u hy hu=>?_⟩
  rw[subV_eq,List.getElem?_map,Option.map_eq_some_iff]at hy
  obtain⟨x,hx,rfl⟩:=hy
  exact relV1_sub hE hD hc (hr j x u hx hu)
 | df f cs rows=>trivial
def swapH (h:Heap) (i:Id) (c:CV) (nw:Option (Nat×AObj)):Heap:=fun j=>
 match nw with
 | some (n,o)=>if j= .loc n then some o else if j=i then some .gone else (h j).map (AObj.sub i c)
 | none=>if j=i then some .gone else (h j).map (AObj.sub i c)
def swapG (g:Ghost) (i:Id) (nw:Option (Nat×AObj)):Ghost:=
 match nw with
 | some (n,_)=>updG g (.loc n) (g i)
 | none=>g
theorem sub_zone {i:Id}{c:CV}{gv:Value}{o:AObj}{b p:Nat}:zone1 gv (o.sub i c) b p↔zone1 gv o b p:=by
 cases o<;>exact Iff.rfl
theorem sub_obk {i:Id}{c:CV}{gv:Value}{o:AObj}{b:Nat}:Obk gv (o.sub i c) b↔Obk gv o b:=by
 cases o<;>exact Iff.rfl
theorem sub_live {i:Id}{c:CV}{o:Option AObj}:isLive (o.map (AObj.sub i c))=isLive o:=by
 cases o with
 | none=>rfl
 | some o=>cases o<;>rfl
theorem RelS.swap (R:RelS C F s h g a w) {i:Id}{ob:AObj}(hi:h i=some ob) (hob:wholeO ob) {c:CV}{nw:Option (Nat×AObj)}(hnw:∀n o,nw=some (n,o)→F n∧o=ob) {F':Nat→Prop}(hF:∀k,F' k→F k∧∀n o,nw=some (n,o)→k≠n)
  (hc:(∀b o,zor (zone (swapG g i nw) (swapH h i c nw)) C.X b o→zor (zone g h) C.X b o)→(nw=none→∀b o,Blk (g i) b→¬zor (zone (swapG g i nw) (swapH h i c nw)) C.X b o)→
   ∀x v,isM i c x→RelC w (zor (zone g h) C.X) g h x v→RelC w (zor (zone (swapG g i nw) (swapH h i c nw)) C.X) (swapG g i nw) (swapH h i c nw) c v):
  RelS C F' (fun t=>(s t).sub i c) (swapH h i c nw) (swapG g i nw) a w:=by
 -- what lies where
 have hn:∀n o,nw=some (n,o)→g (.loc n)=undef∧h (.loc n)=none:=fun n o e=>R.free n (hnw n o e).1
 have gsm:∀j,(∀n o,nw=some (n,o)→j≠ .loc n)→swapG g i nw j=g j:=by
  intro j hj
  unfold swapG
  split
  ·rename_i n o
   simp[updG,hj n o rfl]
  ·rfl
 have gne:∀j,g j≠undef→swapG g i nw j=g j:=fun j hj=>gsm j fun n o e hjn=>hj (hjn▸(hn n o e).1)
 have cases_:∀j o,swapH h i c nw j=some o→(∃n,nw=some (n,o)∧j= .loc n∧o=ob∧swapG g i nw j=g i)∨(j=i∧o= .gone)∨(j≠i∧∃o0,h j=some o0∧o=o0.sub i c∧swapG g i nw j=g j):=by
  intro j o hj
  have other:(∀n o,nw=some (n,o)→j≠ .loc n)→(if j=i then some AObj.gone else (h j).map (AObj.sub i c))=some o→(j=i∧o= .gone)∨(j≠i∧∃o0,h j=some o0∧o=o0.sub i c∧swapG g i nw j=g j):=by
   intro hj' hj
   split at hj
   ·cases hj;exact .inl ⟨by assumption,rfl⟩
   ·rename_i hne
    obtain⟨o0,h1,h2⟩:=Option.map_eq_some_iff.1 hj
    exact .inr ⟨hne,o0,h1,h2.symm,gsm j hj'⟩
  unfold swapH at hj
  split at hj
  ·rename_i n o'
   split at hj
   ·rename_i hjn
    cases hj
    subst hjn
    exact .inl ⟨n,rfl,rfl,(hnw n _ rfl).2,by simp[swapG,updG]⟩
   ·rename_i hjn
    exact .inr (other (by rintro n' o'' e;cases e;exact hjn) hj)
  ·exact .inr (other (by rintro n' o'' e;cases e) hj)
 have hz1:∀j o b p,swapH h i c nw j=some o→zone1 (swapG g i nw j) o b p→∃j' o',h j'=some o'∧zone1 (g j') o' b p∧(j'=j∨j'=i):=by
  intro j o b p hj hb
  rcases cases_ j o hj with⟨n,_,_,rfl,hg⟩ | ⟨rfl,rfl⟩ | ⟨_,o0,h1,rfl,hg⟩
  ·rw[hg]at hb
   exact⟨i,_,hi,hb,.inr rfl⟩
  ·exact hb.elim
  ·rw[hg]at hb
   exact⟨j,o0,h1,sub_zone.1 hb,.inl rfl⟩
 have hz:∀b o,zor (zone (swapG g i nw) (swapH h i c nw)) C.X b o→zor (zone g h) C.X b o:=by
  rintro b p (⟨j,o,hj,hb⟩ | hx)
  ·obtain⟨j',o',h1,h2,_⟩:=hz1 j o b p hj hb
   exact .inl ⟨j',o',h1,h2⟩
  ·exact .inr hx
 have hgone:nw=none→∀b o,Blk (g i) b→¬zor (zone (swapG g i nw) (swapH h i c nw)) C.X b o:=by
  rintro e b p hb (⟨j,o,hj,h1⟩ | hx)
  ·rcases cases_ j o hj with⟨n,e',_⟩ | ⟨rfl,rfl⟩ | ⟨hne,o0,h2,rfl,hg⟩
   ·rw[e]at e';cases e'
   ·exact h1.elim
   ·rw[hg]at h1
    exact hne (R.heap.sep j i o0 ob b h2 hi (sub_zone.1 h1).obk (hob.obk hb))
  ·exact R.heap.apart i _ b p hi (hob.obk hb) hx
 have E:Evo w (zor (zone g h) C.X) g h w (zor (zone (swapG g i nw) (swapH h i c nw)) C.X) (swapG g i nw) (swapH h i c nw):=by
  refine⟨fun b o u hu hx=>⟨hu,fun hy=>hx (hz b o hy)⟩,fun j b hb=>gne j (by rw[hb];simp[undef]),fun j q hq=>gne j (by rw[hq];simp[undef]),fun j hj=>?_,fun j k sz e hj hk=>?_,fun j hj=>?_,fun j hj hl=>?_⟩
  ·rw[gne j (fun e=>by rw[e]at hj;exact hj)];exact hj
  ·have e1:=gne j (fun e=>by rw[e]at hj;exact hj)
   rcases cases_ j _ hk with⟨n,e',rfl,_,_⟩ | ⟨_,h2⟩ | ⟨_,o0,h2,h3,_⟩
   ·rw[(hn n _ e').1]at hj;exact hj.elim
   ·cases h2
   ·cases o0<;>simp[AObj.sub]at h3
    obtain⟨rfl,rfl,rfl⟩:=h3
    exact⟨_,Nat.le_refl _,h2,fun _=>e1⟩
  ·rw[gne j (fun e=>isTu_undef (e▸hj))];exact hj
  ·refine⟨?_,by rw[gne j (fun e=>isTu_undef (e▸hj))]⟩
   cases ho:swapH h i c nw j with
   | none=>rw[ho]at hl;cases hl
   | some o=>
    rw[ho]at hl
    rcases cases_ j o ho with⟨n,e',rfl,_,_⟩ | ⟨_,rfl⟩ | ⟨_,o0,h2,rfl,_⟩
    ·rw[(hn n _ e').1]at hj;exact (isTu_undef hj).elim
    ·cases hl
    ·rw[h2,←sub_live (i:=i) (c:=c)];exact hl
 have hcc:=hc hz hgone
 have objs:∀j o,swapH h i c nw j=some o→RelObj w (zor (zone (swapG g i nw) (swapH h i c nw)) C.X) (swapG g i nw) (swapH h i c nw) o (swapG g i nw j):=by
  intro j o hj
  rcases cases_ j o hj with⟨n,_,_,rfl,hg⟩ | ⟨rfl,rfl⟩ | ⟨_,o0,h1,rfl,hg⟩
  ·rw[hg]
   exact (R.heap.objs i _ hi).evo E fun _ _=>rfl
  ·trivial
  ·rw[hg]
   cases o0 with
   | cells cs=>
    obtain⟨b,cc,e,h2,h3,h4,h5⟩:=R.heap.objs j _ h1
    refine⟨b,cc,e,h2,h3,by rw[subs_eq];simpa using h4,fun q x u hx hu=>?_⟩
    rw[subs_eq,List.getElem?_map,Option.map_eq_some_iff]at hx
    obtain⟨y,hy,rfl⟩:=hx
    exact relC_sub E.relC hcc (h5 q y u hy hu)
   | tree kd ag sz rows foc=>
    cases foc with
    | none=>exact (R.heap.objs j _ h1).evo E fun _ _=>rfl
    | some x=>
     obtain⟨k,cs⟩:=x
     obtain⟨ht,h0,hf,xs,hx,hcs,U,T,p1,p2,p3,p4,p5⟩:=R.heap.objs j _ h1
     have sk:∀{i':Nat},(∀k' cs',(some (k,subs i c cs):Option (Nat×List CV))=some (k',cs')→i'≠k')→∀k' cs',(some (k,cs):Option (Nat×List CV))=some (k',cs')→i'≠k':=by
      intro i' hi k' cs' e
      cases e
      exact hi k _ rfl
     have sk':∀{i':Nat},(∀k' cs',(some (k,cs):Option (Nat×List CV))=some (k',cs')→i'≠k')→∀k' cs',(some (k,subs i c cs):Option (Nat×List CV))=some (k',cs')→i'≠k':=by
      intro i' hi k' cs' e
      cases e
      exact hi k _ rfl
     refine⟨ht,h0,hf,xs,hx,fun k' cs' e=>?_,U,T,fun i' r jj d hi hr hd=>⟨(p1 i' r jj d (sk hi) hr hd).1,(p1 i' r jj d (sk hi) hr hd).2.map E.relD id⟩,fun i' jj b hb=>⟨sk' (p2 i' jj b hb).1,(p2 i' jj b hb).2⟩,p3,p4,p5⟩
     cases e
     obtain⟨g1,g2,g3⟩:=hcs k cs rfl
     refine⟨g1,by rw[subs_eq];simpa using g2,fun q x u hx hu=>?_⟩
     rw[subs_eq,List.getElem?_map,Option.map_eq_some_iff]at hx
     obtain⟨y,hy,rfl⟩:=hx
     exact relC_sub E.relC hcc (g3 q y u hy hu)
   | _=>exact (R.heap.objs j _ h1).evo E fun _ _=>rfl
 have hsep:∀j j' oi oj b,swapH h i c nw j=some oi→swapH h i c nw j'=some oj→Obk (swapG g i nw j) oi b→Obk (swapG g i nw j') oj b→j=j':=by
  intro j j' oi oj b h1 h2 h3 h4
  rcases cases_ j oi h1 with⟨n,e,rfl,rfl,hg⟩ | ⟨rfl,rfl⟩ | ⟨hne,o0,h5,rfl,hg⟩
  ·rcases cases_ j' oj h2 with⟨n',e',rfl,_,_⟩ | ⟨rfl,rfl⟩ | ⟨hne',o0',h5',rfl,hg'⟩
   ·rw[e]at e';cases e';rfl
   ·exact h4.elim
   ·rw[hg]at h3
    rw[hg']at h4
    exact absurd (R.heap.sep i j' _ _ b hi h5' h3 (sub_obk.1 h4)).symm hne'
  ·exact h3.elim
  ·rw[hg]at h3
   rcases cases_ j' oj h2 with⟨n',e',rfl,rfl,hg'⟩ | ⟨rfl,rfl⟩ | ⟨hne',o0',h5',rfl,hg'⟩
   ·rw[hg']at h4
    exact absurd (R.heap.sep j i _ _ b h5 hi (sub_obk.1 h3) h4) hne
   ·exact h4.elim
   ·rw[hg']at h4
    exact R.heap.sep j j' _ _ b h5 h5' (sub_obk.1 h3) (sub_obk.1 h4)
 have RS:=R.step (F':=F') (fun _=>True) E ⟨rfl,rfl,rfl,Nat.le_refl _,fun _ _ _=>rfl,fun _ _ _ hu _=>hu⟩ (fun j hj=>absurd trivial hj) (fun _ _ _ hj=>absurd trivial hj) (fun j o _ hj=>objs j o hj)
  (fun j o b p _ hj hb=>let ⟨j',o',h1,h2,_⟩:=hz1 j o b p hj hb;.inl ⟨j',o',trivial,h1,h2⟩) (fun j j' oi oj b _ _ h1 h2 h3 h4=>hsep j j' oi oj b h1 h2 h3 h4) (fun j _=>by rw[gsm (.ext j) (by rintro n o _ e;cases e)];exact .refl _)
  (fun k hk=>by
   obtain⟨h1,h2⟩:=hF k hk
   obtain⟨h3,h4⟩:=R.free k h1
   have hne:∀n o,nw=some (n,o)→Id.loc k≠ .loc n:=fun n o e h=>h2 n o e (by cases h;rfl)
   refine⟨(gsm _ hne).trans h3,?_⟩
   cases ho:swapH h i c nw (.loc k)with
   | none=>rfl
   | some o=>
    rcases cases_ _ o ho with⟨n,e,e',_⟩ | ⟨e,_⟩ | ⟨_,o0,h5,_⟩
    ·exact absurd e' (hne n _ e)
    ·rw[←e,h4]at hi;cases hi
    ·rw[h4]at h5;cases h5)
 have hdf:DefOK w (zor (zone (swapG g i nw) (swapH h i c nw)) C.X) (swapG g i nw) C.M.cl ((s DT).sub i c) a.defers C.D:=by
  cases he:s DT with
  | df f cs rows=>rw[←he];have:=RS.defers;rw[he]at this ⊢;exact this
  | _=>exact R.defers.un (by simp[AV.sub])
 exact {RS with slots:=fun t=>relAV_sub E.relC E.relD hcc (R.slots t),defers:=hdf}
def subSl (i:Id) (c:CV):List (Nat×AV)→List (Nat×AV)
 | []=>[]
 | (t,v)::r=>(t,v.sub i c)::subSl i c r
def subHp (i:Id) (c:CV):List (Id×AObj)→List (Id×AObj)
 | []=>[]
 | (j,o)::r=>(j,o.sub i c)::subHp i c r
theorem getS_subSl {i:Id}{c:CV}:∀{l:List (Nat×AV)}{t:Nat},getS (subSl i c l) t=(getS l t).sub i c
 | [],t=>rfl
 | (k,v)::r,t=>by
  show (match Nat.beq k t with | true=>v.sub i c | false=>getS (subSl i c r) t)=(match Nat.beq k t with | true=>v | false=>getS r t).sub i c
  cases Nat.beq k t with
  | true=>rfl
  | false=>exact getS_subSl
theorem getH_subHp {i:Id}{c:CV}:∀{l:List (Id×AObj)}{j:Id},getH (subHp i c l) j=(getH l j).map (AObj.sub i c)
 | [],j=>rfl
 | (k,v)::r,j=>by
  show (match Id.beq k j with | true=>some (v.sub i c) | false=>getH (subHp i c r) j)=(match Id.beq k j with | true=>some v | false=>getH r j).map (AObj.sub i c)
  cases Id.beq k j with
  | true=>rfl
  | false=>exact getH_subHp
def fzSt (i:Id) (x:D) (σ:St):St:=⟨subSl i (.d x) σ.slots,setH (subHp i (.d x) σ.heap) i .gone,σ.next⟩
def mvSt (i:Id) (o:AObj) (σ:St):St:=⟨subSl i (.ow (.loc σ.next)) σ.slots,setH (setH (subHp i (.ow (.loc σ.next)) σ.heap) i .gone) (.loc σ.next) o,σ.next+32⟩
theorem weak_swap {σ:St}{i:Id}{x:D}{ob:AObj}(hi:getH σ.heap i=some ob) (hob:wholeO ob)
  (hr:∀{C:Cx} {g:Ghost} {w:World},RelH w C.X g (getH σ.heap)→(∀b o,zor (zone g (swapH (getH σ.heap) i (.d x) none)) C.X b o→zor (zone g (getH σ.heap)) C.X b o)→(∀b o,Blk (g i) b→¬zor (zone g (swapH (getH σ.heap) i (.d x) none)) C.X b o)→
   ∀y v,isM i (.d x) y→RelC w (zor (zone g (getH σ.heap)) C.X) g (getH σ.heap) y v→RelD w (zor (zone g (swapH (getH σ.heap) i (.d x) none)) C.X) x v∧x.isAgg=false):Weak σ (fzSt i x σ):=by
 rintro C a w ⟨g,R⟩
 have R2:=R.swap (F':=fun n=>σ.next≤n) hi hob (c:=.d x) (nw:=none) (fun _ _ e=>by cases e) (fun k hk=>⟨hk,fun _ _ e=>by cases e⟩) (fun hz hg y v hm r=>hr R.heap hz (hg rfl) y v hm r)
 refine⟨g,?_⟩
 have e1:getS (fzSt i x σ).slots=fun t=>(getS σ.slots t).sub i (.d x):=by funext t;exact getS_subSl
 have e2:getH (fzSt i x σ).heap=swapH (getH σ.heap) i (.d x) none:=by
  funext j
  show getH (setH (subHp i (.d x) σ.heap) i .gone) j=_
  rw[getH_setH]
  simp only[updO,swapH,getH_subHp]
 show RelS C (fun n=>σ.next≤n) (getS (fzSt i x σ).slots) (getH (fzSt i x σ).heap) g a w
 rw[e1,e2]
 exact R2
theorem weak_freeze {σ:St}{i:Id}{kd:Kd}{ag:Bool}{sz:Nat}{rows:List D}(hi:getH σ.heap i=some (.tree kd ag sz rows none)) (hk:kd= .row∨kd= .flat):Weak σ (fzSt i (.list ag sz rows) σ):=by
 refine weak_swap hi trivial fun RH hz hg y v hm r=>⟨?_,rfl⟩
 rename_i C g w
 have ho:=RH.objs i _ hi
 have hv:v=gval (g i):=by
  cases y<;>first | exact (hm:False).elim | skip
  ·rename_i j n
   obtain⟨rfl,_⟩:=hm
   obtain⟨⟨b,hb⟩,_⟩:=r
   obtain⟨vs,_,h1,_⟩:=ho.1
   rw[hb]at h1;cases h1
  ·rename_i j
   obtain rfl:j=i:=hm
   exact r.2.2 (by rw[hi];rfl)
 rw[hv]
 obtain⟨ht,h0,hf,xs,hx,_,U,T,h1,h2,h3,h4,h5⟩:=ho
 rcases hk with rfl | rfl
 ·exact ((tree_iff (show conD .row ag sz rows=some (.list ag sz rows)from rfl)).1 (RH.objs i _ hi)).2.toD hg
 ·obtain⟨e,hl,hx⟩:=hx
  rcases hx with⟨hv,hn⟩ | ⟨q,cap,cur,hv,_,hh,hnc,hcm,hcs,htake⟩
  ·have:rows=[]:=List.eq_nil_of_length_eq_zero hn
   subst this
   rw[hv]
   exact .list ag sz [] none 0 0 0 (fun _ _=>undef) (Nat.le_refl _) (Nat.zero_le _) (by simp) (by simp) (by simp) (by simp)
  ·rw[hv]
   refine .list ag sz rows _ cap q 0 U hnc hcm hf (fun _=>rfl) (fun k r j c hr hc=>?_) (fun k r j c hr hc=>?_)
   ·obtain⟨p1,_⟩:=h1 k r j c (fun _ _ h=>by cases h) hr hc
    refine⟨?_,fun hz'=>hg q _ ((h5 q).2 (.inl (by rw[hv];rfl))) hz'⟩
    rw[←htake,List.getElem?_take]at p1
    split at p1
    ·rw[Nat.zero_add]
     simpa [World.cell?,hh] using p1
    ·cases p1
   ·obtain⟨_,p2⟩:=h1 k r j c (fun _ _ h=>by cases h) hr hc
    exact (((RelK.fz rfl).1 p2).1.1).mono fun b o u hu hn=>⟨hu,fun hz'=>hn (hz b o hz')⟩
theorem weak_move {σ:St}{i:Id}{kd:Kd}{ag:Bool}{sz:Nat}{rows:List D}(hi:getH σ.heap i=some (.tree kd ag sz rows none)):Weak σ (mvSt i (.tree kd ag sz rows none) σ):=by
 rintro C a w ⟨g,R⟩
 have hn:=R.free σ.next (Nat.le_refl _)
 have R2:=R.swap (F':=fun n=>σ.next+32≤n) hi trivial (c:=.ow (.loc σ.next)) (nw:=some (σ.next,.tree kd ag sz rows none)) (fun _ _ e=>by cases e;exact⟨Nat.le_refl _,rfl⟩) (fun k hk=>⟨by omega,fun _ _ e=>by cases e;omega⟩) (fun hz hg y v hm r=>by
  have ho:=R.heap.objs i _ hi
  have hv:v.oneCell'=true∧v=gval (g i):=by
   cases y<;>first | exact (hm:False).elim | skip
   ·rename_i j n
    obtain⟨rfl,_⟩:=hm
    obtain⟨⟨b,hb⟩,_⟩:=r
    obtain⟨vs,_,h1,_⟩:=ho.1
    rw[hb]at h1;cases h1
   ·rename_i j
    obtain rfl:j=i:=hm
    exact⟨r.1,r.2.2 (by rw[hi];rfl)⟩
  have e:swapG g i (some (σ.next,.tree kd ag sz rows none)) (.loc σ.next)=g i:=by simp[swapG,updG]
  refine⟨hv.1,by rw[e];exact ho.1,fun _=>by rw[e];exact hv.2⟩)
 refine⟨swapG g i (some (σ.next,.tree kd ag sz rows none)),?_⟩
 have e1:getS (mvSt i (.tree kd ag sz rows none) σ).slots=fun t=>(getS σ.slots t).sub i (.ow (.loc σ.next)):=by funext t;exact getS_subSl
 have e2:getH (mvSt i (.tree kd ag sz rows none) σ).heap=swapH (getH σ.heap) i (.ow (.loc σ.next)) (some (σ.next,.tree kd ag sz rows none)):=by
  funext j
  show getH (setH (setH (subHp i (.ow (.loc σ.next)) σ.heap) i .gone) (.loc σ.next) (.tree kd ag sz rows none)) j=_
  rw[getH_setH,getH_setH]
  simp only[updO,swapH,getH_subHp]
 show RelS C (fun n=>σ.next+32≤n) (getS (mvSt i (.tree kd ag sz rows none) σ).slots) (getH (mvSt i (.tree kd ag sz rows none) σ).heap) _ a w
 rw[e1,e2]
 exact R2
def datas:List CV→Option (List D)
 | []=>some []
 | x::r=>match x with
  | .d d=>match datas r with
   | some l=>some (d::l)
   | none=>none
  | .nils ag sz=>match datas r with
   | some l=>some (.list ag sz []::l)
   | none=>none
  | _=>none
theorem datas_rel {w:World}{Z:Zone}{g:Ghost}{h:Heap}:∀{cs:List CV}{ds:List D},datas cs=some ds→ds.length=cs.length∧∀(j:Nat) c d v,cs[j]?=some c→ds[j]?=some d→RelC w Z g h c v→RelD w Z d v∧d.isAgg=false
 | [],ds,h=>by cases h;simp
 | x::r,ds,h=>by
  unfold datas at h
  split at h
  ·split at h
   ·rename_i d _ l hl
    cases h
    obtain⟨h1,h2⟩:=datas_rel (w:=w) (Z:=Z) (g:=g) (h:=‹Heap›) hl
    refine⟨by simp[h1],fun j c d v hc hd hr=>?_⟩
    match j with
    | 0=>simp at hc hd;subst hc;subst hd;exact hr
    | j+1=>exact h2 j c d v (by simpa using hc) (by simpa using hd) hr
   ·cases h
  ·split at h
   ·rename_i ag sz _ l hl
    cases h
    obtain⟨h1,h2⟩:=datas_rel (w:=w) (Z:=Z) (g:=g) (h:=‹Heap›) hl
    refine⟨by simp[h1],fun j c d v hc hd hr=>?_⟩
    match j with
    | 0=>
     simp at hc hd;subst hc;subst hd
     rw[show v=_ from hr]
     exact⟨relD_nil _ _,rfl⟩
    | j+1=>exact h2 j c d v (by simpa using hc) (by simpa using hd) hr
   ·cases h
  ·cases h
theorem weak_freezeC {σ:St}{i:Id}{cs:List CV}{ds:List D}{ag:Bool}{sz n:Nat}(hi:getH σ.heap i=some (.cells cs)) (hd:datas cs=some ds) (hn:n*sz=ds.length) (hsz:0<sz) (hag:ag=false→sz=1) (hm0:n≤maxLen):
  Weak σ (fzSt i (.list ag sz (rowsOf ag sz n ds)) σ):=by
 refine weak_swap hi trivial fun RH hz hg y v hm r=>⟨?_,rfl⟩
 rename_i C g w
 obtain⟨b,c,e,hb,hh,hs,hr⟩:=RH.objs i _ hi
 obtain⟨hl,hrel⟩:=datas_rel (w:=w) (Z:=zor (zone g (getH σ.heap)) C.X) (g:=g) (h:=getH σ.heap) hd
 have hv:v= .slice (some ⟨b,0,none⟩) (rowsOf ag sz n ds).length n:=by
  cases y<;>first | exact (hm:False).elim | skip
  ·rename_i j n'
   obtain⟨rfl,ag',sz',rows',e1,e2⟩:=hm
   cases e1
   rw[rowsOf_len]at e2 ⊢
   subst e2
   obtain⟨_,h2⟩:=r
   rw[hb]at h2
   exact h2
  ·rename_i j
   obtain rfl:j=i:=hm
   obtain⟨vs,_,h1,_⟩:=r.2.1
   rw[hb]at h1;cases h1
 rw[hv]
 -- a row's cells
 have row:∀(k:Nat) x,(rowsOf ag sz n ds)[k]?=some x→k<n∧x.cells=(ds.drop (k*sz)).take sz∧x.isAgg=ag∧((ds.drop (k*sz)).take sz).length=sz∧∀d∈(ds.drop (k*sz)).take sz,d.isAgg=false:=by
  intro k x hx
  obtain⟨hk,rfl⟩:=rowsOf_get hx
  have hlen:((ds.drop (k*sz)).take sz).length=sz:=by
   rw[List.length_take,List.length_drop]
   have:=Nat.mul_le_mul_right sz (show k+1≤n from hk)
   rw[Nat.add_mul]at this
   omega
  have hno:∀d∈(ds.drop (k*sz)).take sz,d.isAgg=false:=by
   intro d hd'
   have hmem:d∈ds:=List.mem_of_mem_drop (List.mem_of_mem_take hd')
   obtain⟨q,hq⟩:=List.mem_iff_getElem?.1 hmem
   have hlt:=(List.getElem?_eq_some_iff.1 hq).1
   have hq':q<cs.length:=by omega
   have hqc:q<c.size:=by omega
   exact (hrel q cs[q] d c[q] (List.getElem?_eq_getElem hq') hq (hr q cs[q] c[q] (List.getElem?_eq_getElem hq') (by simp[hqc]))).2
  obtain⟨r1,r2⟩:=rowOf_cells hno (fun e=>by rw[hlen];exact hag e)
  exact⟨hk,r1,r2,hlen,hno⟩
 have cell:∀(k:Nat) x (j:Nat) d,(rowsOf ag sz n ds)[k]?=some x→x.cells[j]?=some d→∃u,c[k*sz+j]?=some u∧RelD w (zor (zone g (getH σ.heap)) C.X) d u:=by
  intro k x j d hx hj
  obtain⟨hk,r1,_,r4,_⟩:=row k x hx
  rw[r1,List.getElem?_take]at hj
  split at hj
  ·rename_i hjs
   rw[List.getElem?_drop]at hj
   have hlt:=(List.getElem?_eq_some_iff.1 hj).1
   have hq':k*sz+j<cs.length:=by omega
   have hqc:k*sz+j<c.size:=by omega
   exact⟨c[k*sz+j],by simp[hqc],(hrel _ cs[k*sz+j] d c[k*sz+j] (List.getElem?_eq_getElem hq') hj (hr _ cs[k*sz+j] c[k*sz+j] (List.getElem?_eq_getElem hq') (by simp[hqc]))).1⟩
  ·cases hj
 refine .list ag sz (rowsOf ag sz n ds) _ n b 0 (fun k j=>c.getD (k*sz+j) undef) (by rw[rowsOf_len];exact Nat.le_refl _) hm0 (fun x hx=>?_) (fun _=>rfl) (fun k x j d hx hj=>?_) (fun k x j d hx hj=>?_)
 ·obtain⟨k,hk⟩:=List.mem_iff_getElem?.1 hx
  obtain⟨_,r1,r2,r4,r5⟩:=row k x hk
  exact⟨r2,by rw[r1];exact r4,by rw[r1];exact r5⟩
 ·obtain⟨u,hu,_⟩:=cell k x j d hx hj
  refine⟨?_,fun hz'=>hg b _ (by rw[hb];exact .inl rfl) hz'⟩
  rw[Nat.zero_add]
  simp[World.cell?,hh,hu]
 ·obtain⟨u,hu,hrd⟩:=cell k x j d hx hj
  rw[show c.getD (k*sz+j) undef=u by simp[hu]]
  exact hrd.mono fun b o u hu hn=>⟨hu,fun hz'=>hn (hz b o hz')⟩
end
end Go.AM
namespace Go.AM
open Go Go.RowKit
theorem RelS.tree0 {C:Cx}{F:Nat→Prop}{s:Slots}{h:Heap}{g:Ghost}{a:Act}{w:World}(R:RelS C F s h g a w) {n:Nat}(hf:F n) (ag:Bool) {sz:Nat}(hsz:0<sz):
  ∃g',RelS C (fun k=>F k∧k≠n) s (updO h (.loc n) (.tree .row ag sz [] none)) g' a w∧RelC w (zor (zone g' (updO h (.loc n) (.tree .row ag sz [] none))) C.X) g' (updO h (.loc n) (.tree .row ag sz [] none)) (.ow (.loc n)) (.slice none 0 0):=
 R.treeOf (T0:=[]) (by simp) hf ⟨rfl,rfl,rfl,Nat.le_refl _⟩ (fun _ _ _=>rfl) hsz (⟨0,World.ownsRow_nil w 0 0 sz⟩:Holds w .row sz (.slice none 0 0) ([]:List D).length []) (OwnR.nil w ag sz) (fun b hb=>hb.elim) (by simp[blk]) (by simp)
def treeSlot (t:Nat) (ag:Bool) (sz:Nat) (σ:St):St:=
 ⟨(t,.v (.c (.ow (.loc σ.next))))::σ.slots,setH σ.heap (.loc σ.next) (.tree .row ag sz [] none),σ.next+32⟩
theorem weak_treeSlot {t:Nat}{ag:Bool}{sz:Nat}{σ:St}(hsz:Nat.blt 0 sz=true) (ht:getS σ.slots t= .v (.c (.nils ag sz))):Weak σ (treeSlot t ag sz σ):=by
 rintro C a w ⟨g,R⟩
 have hv:=R.slots t
 rw[ht]at hv
 have hv:a.tmps.getD t undef= .slice none 0 0:=hv
 obtain⟨g',R',hl⟩:=R.tree0 (n:=σ.next) (Nat.le_refl _) ag (sz:=sz) (by simp[Nat.blt]at hsz;omega)
 have R2:=(R'.reslot t (.v (.c (.ow (.loc σ.next)))) (by rw[hv];exact hl)).free_mono (F':=fun n=>σ.next+32≤n) (fun n hn=>⟨by omega,by omega⟩)
 refine⟨g',?_⟩
 simp only[treeSlot,getS_cons,getH_setH]
 exact R2
def treeCell (i:Id) (j:Nat) (ag:Bool) (sz:Nat) (σ:St):St:=
 match getH σ.heap i with
 | some (.cells cs)=>⟨σ.slots,setH (setH σ.heap (.loc σ.next) (.tree .row ag sz [] none)) i (.cells (setNth cs j (.ow (.loc σ.next)))),σ.next+32⟩
 | _=>σ
theorem weak_treeCell {i:Id}{j:Nat}{ag:Bool}{sz:Nat}{σ:St}{cs:List CV}(hsz:Nat.blt 0 sz=true) (hi:getH σ.heap i=some (.cells cs)) (hj:cs[j]?=some (.nils ag sz)):Weak σ (treeCell i j ag sz σ):=by
 rintro C a w ⟨g,R⟩
 obtain⟨g',R',hl⟩:=R.tree0 (n:=σ.next) (Nat.le_refl _) ag (sz:=sz) (by simp[Nat.blt]at hsz;omega)
 have hne:i≠ .loc σ.next:=by
  rintro rfl
  have:=(R.free σ.next (Nat.le_refl _)).2
  rw[this]at hi;cases hi
 have hi':updO (getH σ.heap) (.loc σ.next) (.tree .row ag sz [] none) i=some (.cells cs):=by simp[updO,hne,hi]
 obtain⟨b,c,et,hb,hh,hsz2,hr⟩:=R'.heap.objs i _ hi'
 have R2:=R'.store (cs':=cs.set j (.ow (.loc σ.next))) hi' hb hh (c':=c) (by simp[hsz2]) (fun k x u hx hu=>by
  by_cases hk:k=j
  ·subst hk
   have hlt:k<cs.length:=(List.getElem?_eq_some_iff.1 hj).1
   rw[List.getElem?_set_self hlt]at hx
   cases hx
   have:=hr k _ u hj hu
   rw[show u=_ from this]
   exact hl
  ·rw[List.getElem?_set_ne (by omega)]at hx
   exact hr k x u hx hu)
 have hw:w.setRow b c=w:=setRow_self w b c _ _ hh
 rw[hw]at R2
 have R3:=R2.free_mono (F':=fun n=>σ.next+32≤n) (fun n hn=>⟨by omega,by omega⟩)
 refine⟨g',?_⟩
 simp only[treeCell,hi,getH_setH,setNth_eq]
 exact R3
theorem RelS.flatten {C:Cx}{F:Nat→Prop}{s:Slots}{h:Heap}{g:Ghost}{a:Act}{w:World}(R:RelS C F s h g a w) {i:Id}{ag:Bool}{sz:Nat}{rows:List D}(hi:h i=some (.tree .row ag sz rows none)):
  ∃g',RelS C F s (updO h i (.tree .flat ag sz rows none)) g' a w:=by
 obtain⟨ht,h0,hf,xs,hx,_,U,T,h1,h2,h3,h4,h5⟩:=R.heap.objs i _ hi
 obtain⟨gv,gt,gg,gb⟩:=mkTu (gval (g i)) (blk (gval (g i))).toList (fun b=>blk (gval (g i))=some b) (fun b hb=>by simp[hb])
 have hsub:∀b,Blk gv b→Blk (g i) b:=fun b hb=>(h5 b).2 (.inl ((gb b).1 hb))
 have hX:∀b o,Blk (g i) b→¬Blk gv b→¬zor (zone (updG g i gv) (updO h i (.tree .flat ag sz rows none))) C.X b o:=by
  rintro b o hb hnb (⟨j,ob,hj,h6⟩ | hx)
  ·by_cases hji:j=i
   ·subst hji
    simp only[updO,if_pos,Option.some.injEq]at hj
    subst hj
    have h6:Blk (updG g j gv j) b:=h6
    simp only[updG,if_pos]at h6
    exact hnb h6
   ·simp only[updO,if_neg hji]at hj
    simp only[updG,if_neg hji]at h6
    exact hji (R.heap.sep j i ob _ b hj hi h6.obk hb)
  ·exact R.heap.apart i _ b o hi hb hx
 refine⟨updG g i gv,R.regroup (fun j=>j=i) (fun j hj=>by simp[updO,updG,hj]) ?_ ?_ ?_ ?_ ?_ ?_ ?_ ?_⟩
 ·rintro j rfl
  exact .inr (.inl ⟨ht,by simpa [updG] using gt,by simp[updG,gg]⟩)
 ·rintro j rfl _ _
  rw[hi];rfl
 ·rintro j ob rfl ho
  simp only[updO,if_pos,Option.some.injEq]at ho
  exact .inl ⟨_,_,_,_,_,ho.symm⟩
 ·rintro j o rfl ho EC ED
  simp only[updO,if_pos,Option.some.injEq]at ho
  subst ho
  have e1:updG g j gv j=gv:=by simp[updG]
  rw[e1]
  refine flat_to gt h0 hf (xs:=xs) (by rw[gg];exact hx) (fun k r q c hr hc=>?_) (fun b=>by rw[gb,gg])
  obtain⟨p1,p2⟩:=h1 k r q c (fun _ _ h=>by cases h) hr hc
  refine⟨_,p1,((RelK.own rfl).1 p2).toD fun b o hb=>hX b o ((h5 b).2 (.inr ⟨k,q,hb⟩)) fun hb'=>h3 k q b hb ((gb b).1 hb')⟩
 ·rintro j ob b rfl ho hb
  simp only[updO,if_pos,Option.some.injEq]at ho
  subst ho
  have hb:Blk (updG g j gv j) b:=hb
  simp only[updG,if_pos]at hb
  exact⟨j,_,rfl,hi,fun o=>hsub b hb⟩
 ·rintro j k _ _ _ rfl rfl _ _ _ _
  rfl
 ·rintro j rfl
  exact .inr ⟨ht,by simpa [updG] using gt,by simp[updG,gg]⟩
 ·intro n hn
  have:=R.free n hn
  have hne:Id.loc n≠i:=by rintro rfl;rw[this.2]at hi;cases hi
  exact⟨by simp[updG,hne,this.1],by simp[updO,hne,this.2]⟩
theorem weak_flatten {σ:St}{i:Id}{ag:Bool}{sz:Nat}{rows:List D}(hi:getH σ.heap i=some (.tree .row ag sz rows none)):Weak σ ⟨σ.slots,setH σ.heap i (.tree .flat ag sz rows none),σ.next⟩:=by
 rintro C a w ⟨g,R⟩
 obtain⟨g',R'⟩:=R.flatten hi
 refine⟨g',?_⟩
 rw[getH_setH]
 exact R'
theorem RelS.drop {C:Cx}{F:Nat→Prop}{s:Slots}{h:Heap}{g:Ghost}{a:Act}{w:World}(R:RelS C F s h g a w) {i:Id}{ob:AObj}(hi:h i=some ob):RelS C F s (updO h i .gone) g a w:=by
 refine R.regroup (fun j=>j=i) (fun j hj=>by simp[updO,hj]) ?_ ?_ ?_ ?_ ?_ ?_ ?_ ?_
 ·rintro j rfl
  exact .inl rfl
 ·rintro j rfl _ hl
  simp[updO,isLive]at hl
 ·rintro j ob' rfl ho
  simp[updO]at ho
  exact .inr ho.symm
 ·rintro j o rfl ho _ _
  simp[updO]at ho
  subst ho
  trivial
 ·rintro j ob' b rfl ho hb
  simp[updO]at ho
  subst ho
  exact hb.elim
 ·rintro j k _ _ _ rfl rfl _ _ _ _
  rfl
 ·intro j _
  exact .refl _
 ·intro n hn
  have:=R.free n hn
  have hne:Id.loc n≠i:=by rintro rfl;rw[this.2]at hi;cases hi
  exact⟨this.1,by simp[updO,hne,this.2]⟩
theorem weak_drop {σ:St}{i:Id}{ob:AObj}(hi:getH σ.heap i=some ob):Weak σ ⟨σ.slots,setH σ.heap i .gone,σ.next⟩:=by
 rintro C a w ⟨g,R⟩
 refine⟨g,?_⟩
 rw[getH_setH]
 exact R.drop hi
def treeArr (t:Nat) (cs:List CV) (j:Nat) (ag:Bool) (sz:Nat) (σ:St):St:=
 ⟨(t,.v (.agg (setNth cs j (.ow (.loc σ.next)))))::σ.slots,setH σ.heap (.loc σ.next) (.tree .row ag sz [] none),σ.next+32⟩
theorem weak_treeArr {t j:Nat}{cs:List CV}{ag:Bool}{sz:Nat}{σ:St}(hsz:Nat.blt 0 sz=true) (ht:getS σ.slots t= .v (.agg cs)) (hj:cs[j]?=some (.nils ag sz)):Weak σ (treeArr t cs j ag sz σ):=by
 rintro C a w ⟨g,R⟩
 obtain⟨g',R',hl⟩:=R.tree0 (n:=σ.next) (Nat.le_refl _) ag (sz:=sz) (by simp[Nat.blt]at hsz;omega)
 have hv:=R'.slots t
 rw[ht]at hv
 obtain⟨vs,hvs,hsz2,hr⟩:=hv
 have R2:=(R'.reslot t (.v (.agg (cs.set j (.ow (.loc σ.next))))) (by
  refine⟨vs,hvs,by simp[hsz2],fun k x u hx hu=>?_⟩
  by_cases hk:k=j
  ·subst hk
   have hlt:k<cs.length:=(List.getElem?_eq_some_iff.1 hj).1
   rw[List.getElem?_set_self hlt]at hx
   cases hx
   have:=hr k _ u hj hu
   rw[show u=_ from this]
   exact hl
  ·rw[List.getElem?_set_ne (by omega)]at hx
   exact hr k x u hx hu)).free_mono (F':=fun n=>σ.next+32≤n) (fun n hn=>⟨by omega,by omega⟩)
 refine⟨g',?_⟩
 simp only[treeArr,getS_cons,getH_setH,setNth_eq]
 exact R2
def boxesC (h:Heap):List Id→Option (List FC)
 | []=>some []
 | i::l=>match h i with
  | some (.cells cs)=>(match cs with
   | [.d x]=>(match boxesC h l with
    | some r=>some (.d x::r)
    | none=>none)
   | [.ptr j 0]=>(match boxesC h l with
    | some r=>some (.p j::r)
    | none=>none)
   | _=>none)
  | _=>none
def boxC (h:Heap) (i:Id):FC→Prop
 | .d x=>h i=some (.cells [.d x])
 | .p j=>h i=some (.cells [.ptr j 0])
 | .h=>False
theorem boxesC_ok {h:Heap}:∀{l:List Id}{cs:List FC},boxesC h l=some cs→l.length=cs.length∧∀(j:Nat) i c,l[j]?=some i→cs[j]?=some c→boxC h i c
 | [],cs,e=>by simp[boxesC]at e;subst e;simp
 | i::l,cs,e=>by
  unfold boxesC at e
  split at e
  ·rename_i c0 hi
   split at e
   ·rename_i x
    split at e
    ·rename_i r hr
     cases e
     obtain⟨h1,h2⟩:=boxesC_ok hr
     refine⟨by simp[h1],fun j i' c h3 h4=>?_⟩
     cases j with
     | zero=>simp at h3 h4;subst h3;subst h4;exact hi
     | succ j=>simp at h3 h4;exact h2 j i' c h3 h4
    ·cases e
   ·rename_i x
    split at e
    ·rename_i r hr
     cases e
     obtain⟨h1,h2⟩:=boxesC_ok hr
     refine⟨by simp[h1],fun j i' c h3 h4=>?_⟩
     cases j with
     | zero=>simp at h3 h4;subst h3;subst h4;exact hi
     | succ j=>simp at h3 h4;exact h2 j i' c h3 h4
    ·cases e
   ·cases e
  ·cases e
theorem RelS.dropAll {C:Cx}{F:Nat→Prop}{s:Slots}{g:Ghost}{a:Act}{w:World}:∀(l:List Id) {h:Heap},RelS C F s h g a w→l.Nodup→(∀i∈l,∃ob,h i=some ob)→RelS C F s (updW h (goneAll l)) g a w
 | [],_,R,_,_=>R
 | i::l,h,R,hn,hl=>by
  obtain⟨ob,hi⟩:=hl i (by simp)
  refine RelS.dropAll l (R.drop hi) (List.nodup_cons.1 hn).2 fun j hj=>?_
  have hne:j≠i:=by rintro rfl;exact (List.nodup_cons.1 hn).1 hj
  simp only[updO,if_neg hne]
  exact hl j (by simp[hj])
theorem RelS.cloz {C:Cx}{F:Nat→Prop}{s:Slots}{h:Heap}{g:Ghost}{a:Act}{w:World}(R:RelS C F s h g a w) {t f:Nat}{caps:List Id}{cs:List FC}(ht:s t= .v (.c (.fn f caps))) (hn:caps.Nodup) (hb:boxesC h caps=some cs):
  RelS C F (updS s (some t) (.v (.c (.fz f cs)))) (updW h (goneAll caps)) g a w:=by
 obtain⟨hl,hbx⟩:=boxesC_ok hb
 have hob:∀(j:Nat) i,caps[j]?=some i→∃c,cs[j]?=some c∧boxC h i c:=by
  intro j i hj
  have hlt:=(List.getElem?_eq_some_iff.1 hj).1
  exact⟨cs[j]'(by omega),List.getElem?_eq_getElem (by omega),hbx j i _ hj (List.getElem?_eq_getElem (by omega))⟩
 have hsome:∀i∈caps,∃ob,h i=some ob:=by
  intro i hi
  obtain⟨j,hj⟩:=List.mem_iff_getElem?.1 hi
  obtain⟨c,_,hc⟩:=hob j i hj
  cases c with
  | d x=>exact⟨_,hc⟩
  | p k=>exact⟨_,hc⟩
  | h=>exact hc.elim
 have R':=R.dropAll caps hn hsome
 refine R'.reslot t _ ?_
 have hv:=R.slots t
 rw[ht]at hv
 obtain⟨hv,hcp⟩:=hv
 refine⟨caps.map (fun i=>ptrAt (g i) 0),hv,by simp[hl],fun j c p hc hp=>?_⟩
 rw[List.getElem?_map,Option.map_eq_some_iff]at hp
 obtain⟨i,hi,rfl⟩:=hp
 have hmem:=List.mem_of_getElem? hi
 have hbox:=hbx j i c hi hc
 have main:∀x:CV,h i=some (.cells [x])→∃b u,ptrAt (g i) 0= .pointer (some ⟨b,0,none⟩)∧w.cell? ⟨b,0,none⟩=some u∧¬zor (zone g (updW h (goneAll caps))) C.X b 0∧RelC w (zor (zone g h) C.X) g h x u:=by
  intro x hx
  obtain⟨b,c,e,hg,hh,hs,hr⟩:=R.heap.objs i _ hx
  have hs:c.size=1:=hs
  refine⟨b,c[0]'(by omega),by rw[hg];rfl,?_,?_,hr 0 x _ rfl (by simp)⟩
  ·rw[cell_of_row w b 0 c e (0,0) hh]
   simp
  ·have hob:Obk (g i) (.cells [x]) b:=by rw[hg];exact .inl rfl
   rintro (⟨j',ob,hj',hz⟩ | hx')
   ·rw[updW_gone]at hj'
    split at hj'
    ·cases hj';exact hz.elim
    ·rename_i hnm
     exact hnm (R.heap.sep i j' _ ob b hx hj' hob hz.obk▸hmem)
   ·exact R.heap.apart i _ b 0 hx hob hx'
 have hz:∀b o,zor (zone g (updW h (goneAll caps))) C.X b o→zor (zone g h) C.X b o:=by
  rintro b o (⟨j',ob,hj',hz⟩ | hx)
  ·rw[updW_gone]at hj'
   split at hj'
   ·cases hj';exact hz.elim
   ·exact .inl ⟨j',ob,hj',hz⟩
  ·exact .inr hx
 cases c with
 | d x=>
  obtain⟨b,u,h1,h2,h3,h4⟩:=main _ hbox
  exact⟨b,u,h1,h2,h3,h4.1.mono (fun b o u hu hn=>⟨hu,fun hy=>hn (hz b o hy)⟩),h4.2⟩
 | p k=>
  obtain⟨b,u,h1,h2,h3,h4⟩:=main _ hbox
  exact⟨b,u,h1,h2,h3,h4⟩
 | h=>exact hbox.elim
theorem weak_cloz {σ:St}{t f:Nat}{caps:List Id}{cs:List FC}(ht:getS σ.slots t= .v (.c (.fn f caps))) (hn:nodupB caps=true) (hb:boxesC (getH σ.heap) caps=some cs):
  Weak σ ⟨(t,.v (.c (.fz f cs)))::σ.slots,setW σ.heap (goneAll caps),σ.next⟩:=by
 rintro C a w ⟨g,R⟩
 refine⟨g,?_⟩
 have:=R.cloz ht (nodupB_iff.1 hn) hb
 rw[getH_setW,getS_cons]
 exact this
def fnlSlot (t f:Nat) (cs:List FC) (σ:St):St:=⟨(t,.v (.c (.ow (.loc σ.next))))::σ.slots,setH σ.heap (.loc σ.next) (.fnl f cs []),σ.next+32⟩
theorem weak_fnlSlot {t f:Nat}{cs:List FC}{σ:St}{ag:Bool}{sz:Nat}(ht:getS σ.slots t= .v (.c (.nils ag sz))):Weak σ (fnlSlot t f cs σ):=by
 rintro C a w ⟨g,R⟩
 have hv:=R.slots t
 rw[ht]at hv
 have hv:a.tmps.getD t undef= .slice none 0 0:=hv
 obtain⟨g',R',hl⟩:=R.treeNewG (T0:=[]) (by simp) (n:=σ.next) (Nat.le_refl _) ⟨rfl,rfl,rfl,Nat.le_refl _⟩ (fun _ _ _=>rfl) (ob:=.fnl f cs []) (fun _ _ _ h=>h) (v:=.slice none 0 0) (fun _=>False) [] (fun _ h=>h.elim) (fun _ h=>h.elim) rfl
  (fun Z' g' h' gv gt gg gb E=>⟨gt,fun b=>by rw[gb,gg];simp[blk],[],by rw[gg];exact⟨0,World.ownsRow_nil w 0 0 1⟩,fun k r u hr=>by simp at hr⟩)
 have R2:=(R'.reslot t (.v (.c (.ow (.loc σ.next)))) (by rw[hv];exact hl)).free_mono (F':=fun n=>σ.next+32≤n) (fun n hn=>⟨by omega,by omega⟩)
 refine⟨g',?_⟩
 simp only[fnlSlot,getS_cons,getH_setH]
 exact R2
theorem weak_unC {i:Id}{j:Nat}{σ:St}{cs:List CV}(hi:getH σ.heap i=some (.cells cs)):Weak σ ⟨σ.slots,setH σ.heap i (.cells (setNth cs j .un)),σ.next⟩:=by
 rintro C a w ⟨g,R⟩
 obtain⟨b,c,et,hb,hh,hsz2,hr⟩:=R.heap.objs i _ hi
 have R2:=R.store (cs':=cs.set j .un) hi hb hh (c':=c) (by simp[hsz2]) (fun k x u hx hu=>by
  by_cases hk:k=j
  ·subst hk
   by_cases hlt:k<cs.length
   ·rw[List.getElem?_set_self hlt]at hx
    cases hx
    exact (hr k _ u (List.getElem?_eq_getElem hlt) hu).oneCell
   ·rw[List.getElem?_eq_none (by simp;omega)]at hx
    cases hx
  ·rw[List.getElem?_set_ne (by omega)]at hx
   exact hr k x u hx hu)
 have hw:w.setRow b c=w:=setRow_self w b c _ _ hh
 rw[hw]at R2
 refine⟨g,?_⟩
 simp only[getH_setH,setNth_eq]
 exact R2
inductive Gh where
 | unC (i:Id) (j:Nat)
 | drop (i:Id)
 | treeA (t j:Nat) (ag:Bool) (sz:Nat)
 | flatten (i:Id)
 | close (i:Id)
 | treeS (t:Nat) (ag:Bool) (sz:Nat)
 | treeC (i:Id) (j:Nat) (ag:Bool) (sz:Nat)
 | tokS (t:Nat) (ag:Bool) (sz:Nat) (e:TypeId)
 | tokC (i:Id) (j:Nat) (ag:Bool) (sz:Nat) (e:TypeId)
 | freeze (i:Id)
 | move (i:Id)
 | freezeC (i:Id) (ag:Bool) (sz n:Nat)
 | closeP (i:Id)
 | cloz (t:Nat)
 | fnlS (t f:Nat) (cs:List FC)
def isRF:Kd→Bool
 | .row=>true
 | .flat=>true
 | _=>false
def gh:List Gh→St→(St→Prop)→Prop
 | [],σ,K=>K σ
 | x::r,σ,K=>match x with
  | .close i=>closes (getH σ.heap) [i] fun _ _ wr=>gh r ⟨σ.slots,setW σ.heap wr,σ.next⟩ K
  | .treeS t ag sz=>req (Nat.blt 0 sz)<| req (isNilsA ag sz (getS σ.slots t))<| gh r (treeSlot t ag sz σ) K
  | .treeC i j ag sz=>req (Nat.blt 0 sz)<| (match getH σ.heap i with
   | some (.cells cs)=>req (isNils ag sz (nthC cs j))<| gh r (treeCell i j ag sz σ) K
   | _=>False)
  | .tokS t ag sz e=>req (Nat.blt 0 sz)<| req (isNilsA ag sz (getS σ.slots t))<| gh r (tokSlot t ag sz e σ) K
  | .tokC i j ag sz e=>req (Nat.blt 0 sz)<| (match getH σ.heap i with
   | some (.cells cs)=>req (isNils ag sz (nthC cs j))<| gh r (tokCell i j ag sz e σ) K
   | _=>False)
  | .freeze i=>(match getH σ.heap i with
   | some (.tree kd ag sz rows foc)=>(match foc with
    | none=>req (isRF kd)<| gh r (fzSt i (.list ag sz rows) σ) K
    | some _=>False)
   | _=>False)
  | .unC i j=>(match getH σ.heap i with
   | some (.cells cs)=>gh r ⟨σ.slots,setH σ.heap i (.cells (setNth cs j .un)),σ.next⟩ K
   | _=>False)
  | .drop i=>(match getH σ.heap i with
   | some _=>gh r ⟨σ.slots,setH σ.heap i .gone,σ.next⟩ K
   | none=>False)
  | .treeA t j ag sz=>req (Nat.blt 0 sz)<| (match getS σ.slots t with
   | .v (.agg cs)=>req (isNils ag sz (nthC cs j))<| gh r (treeArr t cs j ag sz σ) K
   | _=>False)
  | .flatten i=>(match getH σ.heap i with
   | some (.tree kd ag sz rows foc)=>(match kd with
    | .row=>(match foc with
     | none=>gh r ⟨σ.slots,setH σ.heap i (.tree .flat ag sz rows none),σ.next⟩ K
     | some _=>False)
    | _=>False)
   | _=>False)
  | .move i=>(match getH σ.heap i with
   | some (.tree kd ag sz rows foc)=>(match foc with
    | none=>gh r (mvSt i (.tree kd ag sz rows none) σ) K
    | some _=>False)
   | _=>False)
  | .freezeC i ag sz n=>(match getH σ.heap i with
   | some (.cells cs)=>(match datas cs with
    | some ds=>req (Nat.beq (n*sz) ds.length)<| req (Nat.blt 0 sz)<| req (ag || Nat.beq sz 1)<| req (Nat.ble n maxLen)<| ∃rows,rowsOf ag sz n ds=rows∧gh r (fzSt i (.list ag sz rows) σ) K
    | none=>False)
   | _=>False)
  | .fnlS t f cs=>(match getS σ.slots t with
   | .v (.c (.nils _ _))=>gh r (fnlSlot t f cs σ) K
   | _=>False)
  | .cloz t=>(match getS σ.slots t with
   | .v (.c (.fn f caps))=>req (nodupB caps)<| (match boxesC (getH σ.heap) caps with
    | some cs=>gh r ⟨(t,.v (.c (.fz f cs)))::σ.slots,setW σ.heap (goneAll caps),σ.next⟩ K
    | none=>False)
   | _=>False)
  | .closeP i=>(match getH σ.heap i with
   | some (.pmap n1 sz n rows foc)=>(match foc with
    | some kj=>(match getH σ.heap kj.2 with
     | some (.arr cs1 ag sz' L cs2)=>req ag<| req (Nat.beq sz' sz)<| (match cs2 with
      | []=>(match allD cs1 with
       | some ds=>∃rows',(rows.modify kj.1 fun r=>(r.1,ds,L))=rows'∧gh r ⟨σ.slots,setW σ.heap [(i,.pmap n1 sz n rows' none),(kj.2,.gone)],σ.next⟩ K
       | none=>False)
      | _::_=>False)
     | _=>False)
    | none=>False)
   | _=>False)
theorem isNilsA_eq {ag:Bool}{sz:Nat}{x:AV}(h:isNilsA ag sz x=true):x= .v (.c (.nils ag sz)):=by
 cases x with
 | v x=>cases x with
  | c c=>rw[isNils_eq h]
  | _=>simp[isNilsA]at h
 | _=>simp[isNilsA]at h
theorem gh_weak {K:St→Prop}:∀{l:List Gh}{σ:St},gh l σ K→∃σ',Weak σ σ'∧K σ'
 | [],σ,h=>⟨σ,Weak.refl σ,h⟩
 | .close i::r,σ,h=>by
  simp only[gh,closes]at h
  split at h
  ·rename_i kd ag sz rows k cs hi
   obtain⟨hnf,h⟩:=req_iff.1 h
   obtain⟨ds,iss,h,hdl,hol,hcl⟩:=closeC_ok h
   split at h
   ·rename_i hnd
    split at h
    ·rename_i hag
     obtain⟨rows',hrows,h⟩:=h
     obtain⟨σ',hw,hk⟩:=gh_weak h
     refine⟨σ',Weak.trans (fun C a w R=>?_) hw,hk⟩
     obtain⟨g,R⟩:=R
     obtain⟨g',R'⟩:=R.closeT hi (notFlat_iff.1 hnf) hdl hol (nodupB_iff.1 hnd) (fun e=>by rw[e]at hag;simpa using hag) hcl hrows
     refine⟨g',?_⟩
     simp only[getH_setW,List.append_nil]
     exact R'
    ·exact h.elim
   ·exact h.elim
  ·exact h.elim
 | .treeS t ag sz::r,σ,h=>by
  obtain⟨h1,h⟩:=req_iff.1 h
  obtain⟨h2,h⟩:=req_iff.1 h
  obtain⟨σ',h3,h4⟩:=gh_weak h
  exact⟨σ',Weak.trans (weak_treeSlot h1 (isNilsA_eq h2)) h3,h4⟩
 | .treeC i j ag sz::r,σ,h=>by
  obtain⟨h1,h⟩:=req_iff.1 h
  split at h
  ·rename_i cs hi
   obtain⟨h2,h⟩:=req_iff.1 h
   obtain⟨σ',h3,h4⟩:=gh_weak h
   exact⟨σ',Weak.trans (weak_treeCell h1 hi (nthC_get h2)) h3,h4⟩
  ·exact h.elim
 | .tokS t ag sz e::r,σ,h=>by
  obtain⟨h1,h⟩:=req_iff.1 h
  obtain⟨h2,h⟩:=req_iff.1 h
  obtain⟨σ',h3,h4⟩:=gh_weak h
  exact⟨σ',Weak.trans (weak_tokSlot h1 (isNilsA_eq h2)) h3,h4⟩
 | .tokC i j ag sz e::r,σ,h=>by
  obtain⟨h1,h⟩:=req_iff.1 h
  split at h
  ·rename_i cs hi
   obtain⟨h2,h⟩:=req_iff.1 h
   obtain⟨σ',h3,h4⟩:=gh_weak h
   exact⟨σ',Weak.trans (weak_tokCell h1 hi (nthC_get h2)) h3,h4⟩
  ·exact h.elim
 | .fnlS t f cs::r,σ,h=>by
  simp only[gh]at h
  split at h
  ·rename_i hs
   obtain⟨σ',h3,h4⟩:=gh_weak h
   exact⟨σ',Weak.trans (weak_fnlSlot hs) h3,h4⟩
  ·exact h.elim
 | .cloz t::r,σ,h=>by
  simp only[gh]at h
  split at h
  ·rename_i f caps hs
   obtain⟨h1,h⟩:=req_iff.1 h
   split at h
   ·rename_i cs hb
    obtain⟨σ',h3,h4⟩:=gh_weak h
    exact⟨σ',Weak.trans (weak_cloz hs h1 hb) h3,h4⟩
   ·exact h.elim
  ·exact h.elim
 | .freeze i::r,σ,h=>by
  simp only[gh]at h
  split at h
  ·rename_i kd ag sz rows foc hi
   split at h
   ·obtain⟨h1,h⟩:=req_iff.1 h
    obtain⟨σ',h3,h4⟩:=gh_weak h
    exact⟨σ',Weak.trans (weak_freeze hi (by cases kd<;>simp[isRF]at h1 ⊢)) h3,h4⟩
   ·exact h.elim
  ·exact h.elim
 | .unC i j::r,σ,h=>by
  simp only[gh]at h
  split at h
  ·rename_i cs hi
   obtain⟨σ',h3,h4⟩:=gh_weak h
   exact⟨σ',Weak.trans (weak_unC hi) h3,h4⟩
  ·exact h.elim
 | .drop i::r,σ,h=>by
  simp only[gh]at h
  split at h
  ·rename_i ob hi
   obtain⟨σ',h3,h4⟩:=gh_weak h
   exact⟨σ',Weak.trans (weak_drop hi) h3,h4⟩
  ·exact h.elim
 | .treeA t j ag sz::r,σ,h=>by
  obtain⟨h1,h⟩:=req_iff.1 h
  split at h
  ·rename_i cs ht
   obtain⟨h2,h⟩:=req_iff.1 h
   obtain⟨σ',h3,h4⟩:=gh_weak h
   exact⟨σ',Weak.trans (weak_treeArr h1 ht (nthC_get h2)) h3,h4⟩
  ·exact h.elim
 | .flatten i::r,σ,h=>by
  simp only[gh]at h
  split at h
  ·rename_i kd ag sz rows foc hi
   split at h
   ·split at h
    ·obtain⟨σ',h3,h4⟩:=gh_weak h
     exact⟨σ',Weak.trans (weak_flatten hi) h3,h4⟩
    ·exact h.elim
   ·exact h.elim
  ·exact h.elim
 | .move i::r,σ,h=>by
  simp only[gh]at h
  split at h
  ·rename_i kd ag sz rows foc hi
   split at h
   ·obtain⟨σ',h3,h4⟩:=gh_weak h
    exact⟨σ',Weak.trans (weak_move hi) h3,h4⟩
   ·exact h.elim
  ·exact h.elim
 | .freezeC i ag sz n::r,σ,h=>by
  simp only[gh]at h
  split at h
  ·rename_i cs hi
   split at h
   ·rename_i ds hd
    obtain⟨h1,h⟩:=req_iff.1 h
    obtain⟨h2,h⟩:=req_iff.1 h
    obtain⟨h5,h⟩:=req_iff.1 h
    obtain⟨h6,rows,rfl,h⟩:=req_iff.1 h
    obtain⟨σ',h3,h4⟩:=gh_weak h
    exact⟨σ',Weak.trans (weak_freezeC hi hd (Nat.eq_of_beq_eq_true h1) (by simp[Nat.blt]at h2;omega) (fun e=>by rw[e]at h5;simpa using h5) (Nat.le_of_ble_eq_true h6)) h3,h4⟩
   ·exact h.elim
  ·exact h.elim
 | .closeP i::r,σ,h=>by
  simp only[gh]at h
  split at h
  ·rename_i n1 sz n rows foc hi
   split at h
   ·rename_i kj
    obtain⟨kk,j⟩:=kj
    split at h
    ·rename_i cs1 ag sz' L cs2 hj
     replace h:=req_iff.1 h
     obtain⟨hag,h5⟩:=h
     replace h5:=req_iff.1 h5
     obtain⟨hsz,h6⟩:=h5
     split at h6
     ·split at h6
      ·rename_i ds hd
       obtain⟨rows',hr,h7⟩:=h6
       subst hag
       obtain rfl:=Nat.eq_of_beq_eq_true hsz
       obtain⟨σ',h3,h4⟩:=gh_weak h7
       refine⟨σ',Weak.trans (fun C a w R=>?_) h3,h4⟩
       obtain⟨g,R⟩:=R
       obtain⟨g',R'⟩:=R.pmClose hi (by rw[←allD_rel hd];exact hj) hr
       refine⟨g',?_⟩
       simp only[getH_setW]
       exact R'
      ·exact h6.elim
     ·exact h6.elim
    ·exact h.elim
   ·exact h.elim
  ·exact h.elim
end Go.AM
namespace Go.AM
open Go Go.RowKit
def slotsOf:List V1→Nat→List (Nat×AV)
 | [],_=>[]
 | x::r,i=>(i,.v x)::slotsOf r (i+1)
def extsOf:List AObj→Nat→List (Id×AObj)
 | [],_=>[]
 | x::r,i=>(.ext i,x)::extsOf r (i+1)
theorem slotsOf_get:∀(l:List V1) (i t:Nat),getS (slotsOf l i) t= .u∨∃x,i≤t∧l[t - i]?=some x∧getS (slotsOf l i) t= .v x
 | [],i,t=>.inl rfl
 | x::r,i,t=>by
  show getS ((i,.v x)::slotsOf r (i+1)) t=_∨∃y,i≤t∧(x::r)[t - i]?=some y∧getS ((i,.v x)::slotsOf r (i+1)) t= .v y
  rw[getS_cons]
  simp only[]
  split
  ·subst t;exact .inr ⟨x,Nat.le_refl _,by simp,rfl⟩
  ·rcases slotsOf_get r (i+1) t with h | ⟨y,h1,h2,h3⟩
   ·exact .inl h
   ·refine .inr ⟨y,by omega,?_,h3⟩
    rw[show t - i=(t - (i+1))+1 from by omega]
    simpa using h2
theorem extsOf_get:∀(l:List AObj) (i:Nat) (x:Id) (o:AObj),getH (extsOf l i) x=some o→∃j,x= .ext j∧i≤j∧l[j - i]?=some o
 | [],i,x,o,h=>by simp[extsOf,getH]at h
 | y::r,i,x,o,h=>by
  rw[show extsOf (y::r) i=(.ext i,y)::extsOf r (i+1)from rfl,getH_cons]at h
  simp only[updO]at h
  split at h
  ·simp at h;subst h;subst x;exact⟨i,rfl,Nat.le_refl _,by simp⟩
  ·obtain⟨j,h1,h2,h3⟩:=extsOf_get r (i+1) x o h
   refine⟨j,h1,by omega,?_⟩
   rw[show j - i=(j - (i+1))+1 from by omega]
   simpa using h3
theorem extsOf_ext:∀(l:List AObj) (i j:Nat),getH (extsOf l i) (.ext (i+j))=l[j]?
 | [],i,j=>by simp[extsOf,getH]
 | y::r,i,j=>by
  rw[show extsOf (y::r) i=(.ext i,y)::extsOf r (i+1)from rfl,getH_cons]
  simp only[updO]
  cases j with
  | zero=>simp
  | succ j=>
   rw[if_neg (by simp),show i+(j+1)=i+1+j from by omega,extsOf_ext r (i+1) j]
   simp
def withRes (ti:Types) (σ:St):List ResultVar→(List V1→Prop)→Prop
 | [],K=>K []
 | .tmp t::r,K=>withV (getS σ.slots t) fun x=>withRes ti σ r fun xs=>K (x.norm::xs)
 | .cell a t::r,K=>outLoad ti t (getS σ.slots a) (getH σ.heap) fun out=>withV out.val fun x=>withRes ti σ r fun xs=>K (x.norm::xs)
def mkRes:List V1→AV
 | [x]=>.v x
 | xs=>.t xs
def renN (nm:List Id) (N:Nat):Id→Id
 | .ext j=>.ext j
 | .loc k=>match nm[k]? with
  | some n=>n
  | none=>.loc N
def isGone:AObj→Bool
 | .gone=>true
 | _=>false
theorem isGone_eq {o:AObj}(h:isGone o=true):o= .gone:=by cases o<;>first | rfl | simp[isGone]at h
def postOK (h:Heap) (r:Id→Id):List AObj→Nat→Prop
 | [],_=>True
 | o::l,j=>match isGone o with
  | true=>postOK h r l (j+1)
  | false=>h (.ext j)=some (o.ren r)∧postOK h r l (j+1)
def newOK (h:Heap) (r:Id→Id):List AObj→List Id→Prop
 | [],[]=>True
 | o::l,n::nm=>h n=some (o.ren r)∧newOK h r l nm
 | _,_=>False
def handOK (post:List AObj):List Id→Prop
 | []=>True
 | .loc _::l=>handOK post l
 | .ext j::l=>match post[j]? with
  | some o=>match isGone o with
   | true=>handOK post l
   | false=>False
  | none=>False
def Fin' (ti:Types) (rs:List ResultVar) (σ:St) (res:AV) (post new:List AObj):Prop:=
 ∃gs,gh gs σ fun σ=>withRes ti σ rs fun xs=>∃nm:List Id,nodupB nm=true∧mkRes xs=res.ren (renN nm σ.next)∧postOK (getH σ.heap) (renN nm σ.next) post 0∧newOK (getH σ.heap) (renN nm σ.next) new nm∧handOK post nm
theorem postOK_get {h:Heap}{r:Id→Id}:∀{l:List AObj}{i j:Nat}{o:AObj},postOK h r l i→l[j]?=some o→o= .gone∨h (.ext (i+j))=some (o.ren r)
 | o::l,i,0,_,hp,hj=>by
  simp at hj
  subst hj
  unfold postOK at hp
  split at hp
  ·rename_i hg;exact .inl (isGone_eq hg)
  ·exact .inr hp.1
 | o::l,i,j+1,_,hp,hj=>by
  simp at hj
  have hp':postOK h r l (i+1):=by
   unfold postOK at hp
   split at hp
   ·exact hp
   ·exact hp.2
  have:=postOK_get (j:=j) hp' hj
  rw[show i+(j+1)=i+1+j from by omega]
  exact this
theorem newOK_get {h:Heap}{r:Id→Id}:∀{l:List AObj}{nm:List Id}{j:Nat}{o:AObj},newOK h r l nm→l[j]?=some o→∃n,nm[j]?=some n∧h n=some (o.ren r)
 | o::l,n::nm,0,_,hp,hj=>by simp at hj;subst hj;exact⟨n,rfl,hp.1⟩
 | o::l,n::nm,j+1,_,hp,hj=>by
  simp at hj
  obtain⟨m,h1,h2⟩:=newOK_get (j:=j) hp.2 hj
  exact⟨m,by simpa using h1,h2⟩
 | [],[],j,_,_,hj=>by simp at hj
 | [],_::_,_,_,hp,_=>hp.elim
 | _::_,[],_,_,hp,_=>hp.elim
theorem newOK_len {h:Heap}{r:Id→Id}:∀{l:List AObj}{nm:List Id},newOK h r l nm→nm.length=l.length
 | o::l,n::nm,hp=>by simp[newOK_len hp.2]
 | [],[],_=>rfl
 | [],_::_,hp=>hp.elim
 | _::_,[],hp=>hp.elim
theorem handOK_get {post:List AObj}:∀{nm:List Id}{k j:Nat},handOK post nm→nm[k]?=some (.ext j)→post[j]?=some .gone
 | [],k,j,_,h=>by simp at h
 | n::nm,0,j,hp,h=>by
  simp at h
  subst h
  simp only[handOK]at hp
  split at hp
  ·rename_i o ho
   split at hp
   ·rename_i hg;rw[ho,isGone_eq hg]
   ·exact hp.elim
  ·exact hp.elim
 | n::nm,k+1,j,hp,h=>by
  simp at h
  refine handOK_get (k:=k) ?_ h
  cases n with
  | loc=>exact hp
  | ext i=>
   simp only[handOK]at hp
   split at hp
   ·split at hp
    ·exact hp
    ·exact hp.elim
   ·exact hp.elim
section
variable {C:Cx}{ti:Types}{σ:St}{g:Ghost}{a:Act}{w:World}{F:Nat→Prop}
theorem loadVal (hti:TIok C.P ti) (h1:TIone ti) (R:RelS C F (getS σ.slots) (getH σ.heap) g a w) {p:Tmp}{t:TypeId}{k:Out→Prop}
  (hk:outLoad ti t (getS σ.slots p) (getH σ.heap) k):∃out v ad,k out∧a.tmps.getD p undef= .pointer (some ad)∧(loadVar t ad).run C.P w= .ok v w∧RelAV w (zor (zone g (getH σ.heap)) C.X) g (getH σ.heap) out.val v:=by
 obtain⟨out,hko,_,H⟩:=load_core (C:=C) hti h1 t _ hk
 obtain⟨v,hv,hr⟩:=H F _ _ g a w _ R (R.slots p) (fun _ _=>rfl)
 refine⟨out,v,?_⟩
 revert hv
 generalize a.tmps.getD p undef=u
 intro hv
 cases u with
 | pointer ad=>
  cases ad with
  | none=>simp[Instr.loadAt,Instr.sureAddr]at hv
  | some ad=>exact⟨ad,hko,rfl,by simpa [Instr.loadAt,Instr.sureAddr] using hv,hr⟩
 | _=>simp[Instr.loadAt,Instr.sureAddr]at hv
def oneRes (tmps:Array Value):ResultVar→Sem Value
 | .tmp t=>pure (tmps.getD t undef)
 | .cell a t=>do loadVar t (←asAddr (tmps.getD a undef))
theorem withRes_sound (hti:TIok C.P ti) (h1:TIone ti) (R:RelS C F (getS σ.slots) (getH σ.heap) g a w):∀(rs:List ResultVar) (K:List V1→Prop),withRes ti σ rs K→
  ∃xs vs,K xs∧(rs.mapM (oneRes a.tmps)).run C.P w= .ok vs w∧vs.length=xs.length∧∀(j:Nat) x v,xs[j]?=some x→vs[j]?=some v→RelV1 w (zor (zone g (getH σ.heap)) C.X) g (getH σ.heap) x v
 | [],K,hk=>⟨[],[],hk,rfl,rfl,by simp⟩
 | .tmp t::r,K,hk=>by
  obtain⟨y,hy,hk⟩:=withV_iff.1 hk
  obtain⟨xs,vs,h2,h3,h4,h5⟩:=withRes_sound hti h1 R r _ hk
  refine⟨y.norm::xs,a.tmps.getD t undef::vs,h2,by simp[List.mapM_cons,oneRes,h3],by simp[h4],fun j x v hx hv=>?_⟩
  match j with
  | 0=>
   simp only[List.getElem?_cons_zero,Option.some.injEq]at hx hv
   subst hx;subst hv
   have:=R.slots t
   rw[hy]at this
   exact RelV1.norm this
  | j+1=>simp at hx hv;exact h5 j x v hx hv
 | .cell p t::r,K,hk=>by
  obtain⟨out,v0,ad,hk,hp,hl,hr⟩:=loadVal hti h1 R hk
  obtain⟨y,hy,hk⟩:=withV_iff.1 hk
  obtain⟨xs,vs,h2,h3,h4,h5⟩:=withRes_sound hti h1 R r _ hk
  refine⟨y.norm::xs,v0::vs,h2,by simp only[List.mapM_cons,oneRes,hp,asAddr];simp[hl,h3],by simp[h4],fun j x v hx hv=>?_⟩
  match j with
  | 0=>
   simp only[List.getElem?_cons_zero,Option.some.injEq]at hx hv
   subst hx;subst hv
   rw[hy]at hr
   exact RelV1.norm hr
  | j+1=>simp at hx hv;exact h5 j x v hx hv
theorem results_run {fn:Func}{vs:List Value}(h:(fn.results.toList.mapM (oneRes a.tmps)).run C.P w= .ok vs w):
  (results fn a.tmps).run C.P w= .ok (if h:vs.toArray.size=1 then vs.toArray[0]else .tuple vs.toArray) w:=by
 have e:results fn a.tmps=(do let vs ←fn.results.mapM (oneRes a.tmps);pure (if h:vs.size=1 then vs[0]else .tuple vs)):=by
  unfold results
  congr 1
 rw[e,Array.mapM_eq_mapM_toList,Sem.run_bind,Sem.run_map,h]
 rfl
end
def Mach.of (P:Program) (I:Inv) (cl:Bool:=false) (pn:Value→List (Nat×AV)→List (Id×AObj)→Nat→Prop:=fun _ _ _ _=>False):Mach where
 I:=I
 cl:=cl
 pn:=pn
 P:=P
 split:=fun c A=>A c
 split_iff:=fun _ _=>Iff.rfl
 lock:=fun p=>p ()
 lock_iff:=fun _=>Iff.rfl
 eqI:=fun a b=>a==b
 eqI_eq:=fun _ _=>rfl
 ltI:=fun a b=>decide (a<b)
 ltI_eq:=fun _ _=>rfl
 leI:=fun a b=>decide (a≤b)
 leI_eq:=fun _ _=>rfl
 eqS:=fun a b=>a.toList==b.toList
 eqS_eq:=fun _ _=>rfl
 ltS:=fun a b=>Op.bytesLess a.toList b.toList
 ltS_eq:=fun _ _=>rfl
 lenI:=fun l=>l.length
 lenI_eq:=fun _=>rfl
 szI:=fun s=>s.size
 szI_eq:=fun _=>rfl
theorem finish {C:Cx}{σ:St}{g2:Ghost}{a:Act}{w':World}{X:Zone}{post new:List AObj}{nm:List Id}(R2:RelS C (fun n=>σ.next≤n) (getS σ.slots) (getH σ.heap) g2 a w') (hX:∀b o,X b o→C.X b o)
  (hnd:nm.Nodup) (hpost:postOK (getH σ.heap) (renN nm σ.next) post 0) (hnewo:newOK (getH σ.heap) (renN nm σ.next) new nm) (hhand:handOK post nm):
  RelH w' X (fun i=>g2 (renN nm σ.next i)) (heapOf2 post new)∧(∀i ob b o,heapOf2 post new i=some ob→zone1 (g2 (renN nm σ.next i)) ob b o→∃j ob',getH σ.heap j=some ob'∧zone1 (g2 j) ob' b o)∧
   (∀k,new.length≤k→g2 (renN nm σ.next (.loc k))=undef)∧
   ∀(x:AV) v,RelAV w' (zor (zone g2 (getH σ.heap)) C.X) g2 (getH σ.heap) (x.ren (renN nm σ.next)) v→RelAV w' (zor (zone (fun i=>g2 (renN nm σ.next i)) (heapOf2 post new)) X) (fun i=>g2 (renN nm σ.next i)) (heapOf2 post new) x v:=by
 have live:∀i o,heapOf2 post new i=some o→o= .gone∨getH σ.heap (renN nm σ.next i)=some (o.ren (renN nm σ.next)):=by
  intro i o hi
  cases i with
  | ext j=>have:=postOK_get hpost hi;rw[Nat.zero_add]at this;exact this
  | loc k=>
   obtain⟨n,hn,ho⟩:=newOK_get hnewo hi
   exact .inr (by simpa [renN,hn] using ho)
 have hz:∀b o,zor (zone (fun i=>g2 (renN nm σ.next i)) (heapOf2 post new)) X b o→zor (zone g2 (getH σ.heap)) C.X b o:=by
  rintro b o (⟨i,ob,hi,h1⟩ | hx)
  ·rcases live i ob hi with rfl | ho
   ·exact h1.elim
   ·exact .inl ⟨_,_,ho,zone1_ren.2 h1⟩
  ·exact .inr (hX b o hx)
 have ht:∀i n sz e,heapOf2 post new i=some (.tok n sz e)→getH σ.heap (renN nm σ.next i)=some (.tok n sz e):=fun i n sz e hi=>(live i _ hi).resolve_left (by simp)
 have hw:∀i,isLive (heapOf2 post new i)=true→isLive (getH σ.heap (renN nm σ.next i))=true:=by
  intro i hi
  cases ho:heapOf2 post new i with
  | none=>rw[ho]at hi;cases hi
  | some o=>
   rw[ho]at hi
   rcases live i o ho with rfl | h
   ·cases hi
   ·rw[h]
    exact isLive_ren.trans hi
 have hN:=R2.free σ.next (Nat.le_refl _)
 refine⟨⟨fun i o hi=>?_,fun i j oi oj b hi hj bi bj=>?_,fun i oi b o hi bi=>?_⟩,fun i ob b o hi hb=>?_,fun k hk=>?_,fun x v h=>RelAV.pull (r:=renN nm σ.next) (g:=g2) (h:=getH σ.heap) hz (fun _=>rfl) ht hw h⟩
 ·rcases live i o hi with rfl | ho
  ·trivial
  ·exact RelObj.pull (r:=renN nm σ.next) hz (fun _=>rfl) ht hw (R2.heap.objs _ _ ho)
 ·rcases live i oi hi with rfl | ho
  ·exact bi.elim
  rcases live j oj hj with rfl | ho'
  ·exact bj.elim
  have e:=R2.heap.sep _ _ _ _ b ho ho' (Obk_ren.2 bi) (Obk_ren.2 bj)
  cases i with
  | ext i=>
   cases j with
   | ext j=>simpa [renN] using e
   | loc k=>
    obtain⟨n,hn,_⟩:=newOK_get hnewo hj
    simp only[renN,hn]at e
    subst e
    have:=handOK_get hhand hn
    rw[show heapOf2 post new (.ext i)=post[i]? from rfl,this]at hi
    cases hi
    exact bi.elim
  | loc k=>
   obtain⟨n,hn,_⟩:=newOK_get hnewo hi
   cases j with
   | ext j=>
    simp only[renN,hn]at e
    subst e
    have:=handOK_get hhand hn
    rw[show heapOf2 post new (.ext j)=post[j]? from rfl,this]at hj
    cases hj
    exact bj.elim
   | loc k'=>
    obtain⟨n',hn',_⟩:=newOK_get hnewo hj
    simp only[renN,hn,hn']at e
    subst e
    rw[(List.getElem?_inj (List.getElem?_eq_some_iff.1 hn).1 hnd).1 (hn.trans hn'.symm)]
 ·rcases live i oi hi with rfl | ho
  ·exact bi.elim
  ·intro hx
   exact R2.heap.apart _ _ b o ho (Obk_ren.2 bi) (hX b o hx)
 ·rcases live i ob hi with rfl | ho
  ·exact hb.elim
  ·exact⟨_,_,ho,zone1_ren.2 hb⟩
 ·have:nm[k]?=none:=by simp[newOK_len hnewo];omega
  simp only[renN,this]
  exact hN.1
theorem leave_marks {P:Program}{fn:Func}{tmps:Array Value}{R:Ending→World→Prop}:∀(ds:List Nat) (w:World),ds.Nodup→(∀r∈ds,w.heap[r]?=some (.deferred (some [])))→
  LeavesIn Fence.wide 0 P fn tmps R [] .returning (ds.foldl (fun w r=>w.putObj r (.deferred none)) w)→LeavesInM Fence.wide 0 P fn tmps R (ds.map markOf) .returning w
 | [],w,_,_,h=>h
 | r::ds,w,hn,hd,h=>by
  refine⟨by simp,.inl ⟨r,_,rfl,run_takeDeferred (hd r (by simp)),?_⟩⟩
  refine leave_marks ds _ (List.nodup_cons.1 hn).2 (fun r' hr'=>?_) h
  exact (World.putObj_heap_other (by rintro rfl;exact (List.nodup_cons.1 hn).1 hr')).trans (hd r' (by simp[hr']))
theorem marks_apart:∀(ds:List Nat) (w:World),ApartW (fun b=>b∈ds) w (ds.foldl (fun w r=>w.putObj r (.deferred none)) w)
 | [],w=>⟨rfl,rfl,rfl,Nat.le_refl _,fun _ _ _=>rfl⟩
 | r::ds,w=>by
  have:=marks_apart ds (w.putObj r (.deferred none))
  refine⟨this.os,this.tape,this.output,by simpa using this.size,fun b hb hn=>?_⟩
  simp only[List.mem_cons,not_or]at hn
  exact (this.block b (by simpa using hb) hn.2).trans (World.putObj_heap_other hn.1)
theorem marks_size:∀(ds:List Nat) (w:World),(ds.foldl (fun w r=>w.putObj r (.deferred none)) w).heap.size=w.heap.size
 | [],_=>rfl
 | r::ds,w=>by
  have:=marks_size ds (w.putObj r (.deferred none))
  rw[World.putObj_size]at this
  exact this
theorem RelS.turned {C:Cx}{F:Nat→Prop}{s:Slots}{h:Heap}{g:Ghost}{a a':Act}{w w':World}(R:RelS C F s h g a w) {B:Nat→Prop}(A:ApartW B w w') (hs:w'.heap.size=w.heap.size) (hB:∀b o,B b→C.X b o) (hI:∀b,C.M.I.blocks b→¬B b) (ht:a'.tmps=a.tmps) (ro:Option Nat)
  (hro:∀l,ro=some l→(∃L,w'.heap[l]?=some (.loop L))∧∀o,C.X l o) (hd:a'.defers=[]) (hcl:C.M.cl=false):
  ∃C2:Cx,C2.M=C.M∧C2.nt=C.nt∧C2.X=C.X∧C2.ro=ro∧C2.w0=w'∧C2.Z0=zone g h∧C2.g0=g∧C2.D=[]∧RelS C2 F s h g a' w':=by
 have hX:∀b o,C.X b o→b<w.heap.size:=fun b o hx=>Nat.lt_of_lt_of_le (R.xs b o hx) R.frame.size
 have noz:∀b,(∀o,C.X b o)→∀o,¬zone g h b o:=by
  rintro b hx o ⟨i,ob,hi,hz⟩
  exact R.heap.apart i ob b o hi hz.obk (hx o)
 have hinv:C.M.I.at w' (zor (zone g h) C.X):=by
  obtain⟨i1,i2⟩:=R.inv
  refine⟨C.M.I.same (fun b hb=>A.block b (i2 b hb).1 (hI b hb)) i1,fun b hb=>⟨by rw[hs];exact (i2 b hb).1,(i2 b hb).2⟩⟩
 refine⟨{M:=C.M,nt:=C.nt,w0:=w',Z0:=zone g h,X:=C.X,g0:=g,hinv:=hinv,ro:=ro,D:=[],hro:=fun l hl=>⟨(hro l hl).1,noz l (hro l hl).2⟩,hD:=by simp,hDn:=List.nodup_nil,hcl:=fun h=>by rw[hcl]at h;cases h},rfl,rfl,rfl,rfl,rfl,rfl,rfl,rfl,?_⟩
 refine R.restart A rfl rfl (fun i o hi=>.inl hi) (fun b o hb=>.inr (hB b o hb)) ?_ (fun b o hx=>.inl (.inr hx)) (fun b o hx=>by rw[hs];exact hX b o hx) (fun i ob b o hi hb hx=>R.heap.apart i ob b o hi hb hx) rfl (fun b o hz=>hz) (fun j=>.refl _) ht ⟨fun _=>hd,fun h=>by rw[hcl]at h;cases h⟩ (fun n hn=>(R.free n hn).2)
 intro i ob b hi hb hBb
 exact R.heap.apart i ob b 0 hi hb (hB b 0 hBb)
theorem relS_start {C:Cx}{P:Program}{sl:List (Nat×AV)}{pre:List AObj}{g:Ghost}{a:Act}{w:World}(hsz:a.tmps.size=C.nt) (hd:DefOK w (zor (zone g (heapOf pre)) C.X) g C.M.cl (getS sl DT) a.defers C.D) (hsl:∀t,RelAV w (zor (zone g (heapOf pre)) C.X) g (heapOf pre) (getS sl t) (a.tmps.getD t undef))
  (RH:RelH w C.X g (heapOf pre)) (hw0:C.w0=w) (hg0:C.g0=g) (hZ:∀b o,zone g (heapOf pre) b o→C.Z0 b o) (hX:∀b o,C.X b o→b<w.heap.size) (hg:∀n,g (.loc n)=undef):RelSt C ⟨sl,extsOf pre 0,0⟩ a w:=by
 have hh:getH (extsOf pre 0)=heapOf pre:=by
  funext i
  cases i with
  | ext j=>have:=extsOf_ext pre 0 j;rw[Nat.zero_add]at this;exact this
  | loc n=>
   cases hc:getH (extsOf pre 0) (.loc n)with
   | none=>rfl
   | some o=>obtain⟨j,e,_⟩:=extsOf_get pre 0 _ o hc;simp at e
 refine⟨g,?_⟩
 rw[hh]
 exact⟨hsz,hd,hsl,RH,by rw[hw0];exact Frame'.refl _ _,fun j=>by rw[hg0];exact .refl _,fun j ob b o hj hz=>.inl (hZ b o ⟨_,_,hj,hz⟩),by rw[hw0];exact hX,fun n _=>⟨hg n,rfl⟩⟩
theorem TripK.body {P:Program}{I:Inv}{ti:Types}(dr:Mach→Nat→Draw) (hti:TIok P ti) (h1:TIone ti) (hdr:∀C:Cx,C.P=P→DrawOK C (dr C.M C.nt)) {f:FuncId}{fn:Func}{c:Code}(hf:P.funcs[f]?=some fn) (hb:fn.body=some c)
  (hname:(fn.name== "runtime.NumGoroutine")=false) {args:List V1} {pre:List AObj} {Q:AV→List AObj→List AObj→Prop} (hargs:args.length≤fn.ntmps)
  (hx:∀M:Mach,M.P=P→M.I=I→exec M ti fn.ntmps (dr M fn.ntmps) c ⟨slotsOf args 0,extsOf pre 0,0⟩ fun e σ=>match e with
   | .exit _=>False
   | .normal=>∃res post new,Q res post new∧Fin' ti fn.results.toList σ res post new
   | .ret=>∃res post new,Q res post new∧Fin' ti fn.results.toList σ res post new)
  (w:World) (X:Zone) (g:Ghost) (vals:Array Value) (hX:∀b o,X b o→b<w.heap.size) (hI:I.at w (zor (zone g (heapOf pre)) X)) (RH:RelH w X g (heapOf pre)) (hg:∀n,g (.loc n)=undef) (hsz:vals.size=args.length)
  (hargs':∀(j:Nat) x v,args[j]?=some x→vals[j]?=some v→RelV1 w (zor (zone g (heapOf pre)) X) g (heapOf pre) x v):
  c.wpIn Fence.wide 0 P (fun e a' w'=>match e with
   | .normal=>(∃ds:List Nat,a'.defers=ds.map markOf)∧LeavesInM Fence.wide 0 P fn a'.tmps (fun e w'=>∃v g' res post new,Q res post new∧e= .returned v∧CallPost w X g pre res post new v w' g') a'.defers .returning w'
   | .ret=>(∃ds:List Nat,a'.defers=ds.map markOf)∧LeavesInM Fence.wide 0 P fn a'.tmps (fun e w'=>∃v g' res post new,Q res post new∧e= .returned v∧CallPost w X g pre res post new v w' g') a'.defers .returning w'
   | _=>False) {tmps:=vals++Array.replicate (fn.ntmps - vals.size) undef,defers:=[]} w:=by
 let C:Cx:={M:=Mach.of P I,nt:=fn.ntmps,w0:=w,Z0:=zone g (heapOf pre),X:=X,g0:=g,hinv:=hI,ro:=none,D:=[],hro:=fun l hl=>(by cases hl),hD:=fun r hr=>(by cases hr),hDn:=List.nodup_nil,hcl:=fun h=>(by cases h)}
 have R0:RelSt C ⟨slotsOf args 0,extsOf pre 0,0⟩ {tmps:=vals++Array.replicate (fn.ntmps - vals.size) undef,defers:=[]} w:=by
  refine relS_start (P:=P) (by simp[C];omega) rfl (fun t=>?_) RH rfl rfl (fun _ _ h=>h) hX hg
  rcases slotsOf_get args 0 t with h | ⟨x,_,h2,h3⟩
  ·rw[h];trivial
  ·rw[h3]
   simp only[Nat.sub_zero]at h2
   have hlt:t<vals.size:=by rw[hsz];exact (List.getElem?_eq_some_iff.1 h2).1
   have:(vals++Array.replicate (fn.ntmps - vals.size) undef).getD t undef=vals[t]:=by
    simp[Array.getElem?_append,hlt]
   show RelV1 w _ g _ x ((vals++Array.replicate (fn.ntmps - vals.size) undef).getD t undef)
   rw[this]
   exact hargs' t x _ h2 (by simp[hlt])
 refine wpIn_mono (exec_sound (M:=Mach.of P I) (ro:=none) hti h1 (fun C hC hn=>by
  have:=hdr C (by show C.M.P=P;rw[hC];rfl)
  rw[hC,hn]at this
  exact this) c _ _ C _ w rfl rfl rfl (fun h=>by cases h) (hx (Mach.of P I) rfl rfl) R0) ?_
 have fin:∀(C':Cx) (σ:St) (a':Act) (w':World),CxLe C C'→(∃res post new,Q res post new∧Fin' ti fn.results.toList σ res post new)→RelSt C' σ a' w'→
   (∃ds:List Nat,a'.defers=ds.map markOf)∧LeavesInM Fence.wide 0 P fn a'.tmps (fun e w'=>∃v g' res post new,Q res post new∧e= .returned v∧CallPost w X g pre res post new v w' g') a'.defers .returning w':=by
  rintro C' σ0 a' w' hle ⟨res,post,new,hQ,gs,hfin⟩ R0
  obtain⟨σ,hweak,hfin⟩:=gh_weak hfin
  obtain⟨g1,R1⟩:=hweak _ _ _ R0
  have hcf:C'.M.cl=false:=by rw[hle.M];rfl
  refine⟨⟨_,R1.marks hcf⟩,?_⟩
  rw[R1.marks hcf]
  obtain⟨ds,hds,hds2⟩:=hle.marks
  have hds:C'.D=ds:=by rw[hds];exact List.append_nil ds
  refine leave_marks _ _ C'.hDn (fun r hr=>(R1.kept (C'.hD r hr).1 (C'.hD r hr).2).1) ?_
  have A:=marks_apart C'.D w'
  generalize hw2:C'.D.foldl (fun w r=>w.putObj r (.deferred none)) w'=w2 at A ⊢
  have hsz2:w2.heap.size=w'.heap.size:=by rw[←hw2];exact marks_size _ _
  obtain⟨C2,c1,c2,c3,c4,c5,c6,c7,c8,R2⟩:=R1.turned (a':={tmps:=a'.tmps,defers:=[]}) A hsz2 (fun b o hb=>(hds2 b (hds▸hb)).2 o) (fun b hb hd=>(R1.inv.2 b hb).2 0 (.inr ((hds2 b (hds▸hd)).2 0))) rfl none (fun l hl=>by cases hl) rfl hcf
  have hti2:TIok C2.P ti:=by show TIok C2.M.P ti;rw[c1,hle.M];exact hti
  have hP:C2.P=P:=by show C2.M.P=P;rw[c1,hle.M];rfl
  obtain⟨xs,vs,⟨nm,hnd,hres,hpost,hnewo,hhand⟩,hrun,hlen,hrel⟩:=withRes_sound (C:=C2) hti2 h1 R2 _ _ hfin
  obtain⟨f1,f2,f3,f4⟩:=finish (X:=X) R2 (fun b o hx=>by rw[c3];exact hle.X b o hx) (nodupB_iff.1 hnd) hpost hnewo hhand
  obtain⟨d1,d2,d3⟩:=hle.down R1
  have hrr:=results_run (C:=C2) hrun
  rw[hP]at hrr
  refine⟨_,hrr,_,fun i=>g1 (renN nm σ.next i),res,post,new,hQ,rfl,⟨f1,?_,?_,fun j=>d2 j,fun i ob b o hi hb=>?_,f3⟩⟩
  ·refine f4 res _ ?_
   rw[←hres]
   have other:xs.length≠1→RelAV w2 (zor (zone g1 (getH σ.heap)) C2.X) g1 (getH σ.heap) (.t xs) (.tuple vs.toArray):=fun _=>
    ⟨vs.toArray,rfl,by simpa using hlen,fun j x v hx hv=>hrel j x v hx (by simpa using hv)⟩
   match xs,vs,hlen,hrel,other with
   | [x],[v],_,hrel,_=>exact hrel 0 x v rfl rfl
   | [],[],_,_,other=>exact other (by simp)
   | x::y::xs,v::u::vs,hl,_,other=>
    have:¬(v::u::vs).toArray.size=1:=by simp
    simp only[dif_neg this]
    exact other (by simp)
  ·exact d1.then (Z':=fun b _=>b∈C'.D) ⟨A.os,A.tape,A.output,A.size,fun b hb hn=>A.block b hb (hn 0),fun b o u hu hn=>A.cell hu hn⟩ (fun p o hp=>.inr (hds2 p (hds▸hp)).1)
  ·obtain⟨j,ob',hj,hz⟩:=f2 i ob b o hi hb
   exact d3 j ob' b o hj hz
 intro e a' w' hq
 cases e with
 | normal=>obtain⟨C',hle,σ,hf',hr⟩:=hq;exact fin C' σ a' w' hle hf' hr
 | ret=>obtain⟨C',hle,σ,hf',hr⟩:=hq;exact fin C' σ a' w' hle hf' hr
 | exit id=>obtain⟨C',hle,σ,hf',hr⟩:=hq;exact hf'.elim
 | goto l=>exact hq.elim
 | panic ch=>obtain⟨C',hle,v0,s,h,nx,hpn,_⟩:=hq;rw[hle.M]at hpn;exact hpn.elim
 | outgrown=>exact hq.elim
theorem TripK.intro {P:Program}{I:Inv}{ti:Types}(dr:Mach→Nat→Draw) (hti:TIok P ti) (h1:TIone ti) (hdr:∀C:Cx,C.P=P→DrawOK C (dr C.M C.nt)) {f:FuncId}{fn:Func}{c:Code}(hf:P.funcs[f]?=some fn) (hb:fn.body=some c)
  (hname:(fn.name== "runtime.NumGoroutine")=false) {args:List V1} {pre:List AObj} {Q:AV→List AObj→List AObj→Prop} (hargs:args.length≤fn.ntmps)
  (hx:∀M:Mach,M.P=P→M.I=I→exec M ti fn.ntmps (dr M fn.ntmps) c ⟨slotsOf args 0,extsOf pre 0,0⟩ fun e σ=>match e with
   | .exit _=>False
   | .normal=>∃res post new,Q res post new∧Fin' ti fn.results.toList σ res post new
   | .ret=>∃res post new,Q res post new∧Fin' ti fn.results.toList σ res post new):TripK P I f args pre Q:=by
 refine⟨⟨fn,c,hf,hb,hname⟩,fun w X g vals hX hI RH hg hsz hargs'=>callsIn_wide.1 (callsIn_of_wp_marks (n:=0) hf hb trivial (wpIn_mono (TripK.body dr hti h1 hdr hf hb hname hargs hx w X g vals hX hI RH hg hsz hargs') ?_))⟩
 intro e a' w' hq
 cases e with
 | normal=>exact hq.2
 | ret=>exact hq.2
 | exit id=>exact hq.elim
 | goto l=>exact hq.elim
 | panic ch=>exact hq.elim
 | outgrown=>exact hq.elim
end Go.AM
namespace Go.AM
open Go Go.RowKit
def putPs:List Tmp→List V1→List (Nat×AV)→List (Nat×AV)
 | p::ps,x::xs,s=>putPs ps xs ((p,.v x)::s)
 | _,_,s=>s
theorem putAll_size {ps:Array Tmp}{vals tmps:Array Value}:(putAll ps vals tmps).size=tmps.size:=by
 unfold putAll
 rw[←Array.foldl_toList]
 generalize (ps.zip vals).toList=l
 induction l generalizing tmps with
 | nil=>rfl
 | cons x l ih=>
  simp only[List.foldl_cons]
  exact ih.trans (by simp)
theorem putPs_rel {w:World}{Z:Zone}{g:Ghost}{h:Heap}:∀{ps:List Tmp}{xs:List V1}{vs:List Value}{s:List (Nat×AV)}{tmps:Array Value},xs.length=ps.length→vs.length=xs.length→(∀p∈ps,p<tmps.size)→
  (∀(j:Nat) x v,xs[j]?=some x→vs[j]?=some v→RelV1 w Z g h x v)→(∀t,RelAV w Z g h (getS s t) (tmps.getD t undef))→
  ∀t,RelAV w Z g h (getS (putPs ps xs s) t) (((ps.zip vs).foldl (fun t x=>t.setIfInBounds x.1 x.2) tmps).getD t undef)
 | [],[],[],s,tmps,_,_,_,_,hs=>hs
 | p::ps,x::xs,v::vs,s,tmps,h1,h2,h3,h4,hs=>by
  refine putPs_rel (ps:=ps) (xs:=xs) (vs:=vs) (by simpa using h1) (by simpa using h2) (fun q hq=>by simpa using h3 q (by simp[hq])) (fun j x v hx hv=>h4 (j+1) x v (by simpa using hx) (by simpa using hv)) ?_
  intro t
  rw[getS_cons]
  simp only[]
  split
  ·subst t
   have:=h3 p (by simp)
   rw[Array.getD_eq_getD_getElem?,Array.getElem?_setIfInBounds_self_of_lt this]
   exact h4 0 x v rfl rfl
  ·rename_i hne
   rw[Array.getD_eq_getD_getElem?,Array.getElem?_setIfInBounds_ne (Ne.symm hne),←Array.getD_eq_getD_getElem?]
   exact hs t
 | [],_::_,_,_,_,h1,_,_,_,_=>by simp at h1
 | _::_,[],_,_,_,h1,_,_,_,_=>by simp at h1
 | [],[],_::_,_,_,_,h2,_,_,_=>by simp at h2
 | _::_,_::_,[],_,_,_,h2,_,_,_=>by simp at h2
def jumpOf:AExit→Jump
 | .normal=>none
 | .ret=>some none
 | .exit id=>some (some id)
def FinR (σ:St) (post new:List AObj):Prop:=
 ∃gs,gh gs σ fun σ=>∃nm:List Id,nodupB nm=true∧postOK (getH σ.heap) (renN nm σ.next) post 0∧newOK (getH σ.heap) (renN nm σ.next) new nm∧handOK post nm
theorem RoundK.intro {P:Program}{I:Inv}{ti:Types}(dr:Mach→Nat→Draw) (hti:TIok P ti) (h1:TIone ti) (hdr:∀C:Cx,C.P=P→DrawOK C (dr C.M C.nt)) {r:RF}{sl:List (Nat×AV)}{args:List V1}{pre:List AObj}{Q:Jump→List AObj→List AObj→Prop}
  (hlen:args.length=r.params.size) (hps:allB (fun p=>Nat.blt p r.nt) r.params.toList=true)
  (hx:∀M:Mach,M.P=P→M.I=I→exec M ti r.nt (dr M r.nt) r.assign ⟨putPs r.params.toList args sl,extsOf pre 0,0⟩ fun e σ=>match e with
   | .normal=>exec M ti r.nt (dr M r.nt) r.body σ fun e σ=>∃post new,Q (jumpOf e) post new∧FinR σ post new
   | _=>False):RoundK P I r sl args pre Q:=by
 refine⟨hlen,?_⟩
 intro l L w X g vals hX hXl hl l1 l2 l3 l4 l5 l6 hI RH hg hsz hargs hsl
 have hlt:l<w.heap.size:=(Array.getElem?_eq_some_iff.1 hl).1
 have noz:∀{X:Zone} {w:World} {g:Ghost} {h:Heap},RelH w X g h→(∀o,X l o)→∀o,¬zone g h l o:=by
  rintro X w g h RH hx o ⟨i,ob,hi,hz⟩
  exact RH.apart i ob l o hi hz.obk (hx o)
 let C:Cx:={M:=Mach.of P I,nt:=r.nt,w0:=w,Z0:=zone g (heapOf pre),X:=X,g0:=g,hinv:=hI,ro:=some l,D:=[],hro:=fun l' hl'=>(by cases hl';exact⟨⟨L,hl⟩,noz RH hXl⟩),hD:=fun r hr=>(by cases hr),hDn:=List.nodup_nil,hcl:=fun h=>(by cases h)}
 have hdr':∀C':Cx,C'.M=Mach.of P I→C'.nt=r.nt→DrawOK C' (dr (Mach.of P I) r.nt):=fun C' hC hn=>by
  have:=hdr C' (by show C'.M.P=P;rw[hC];rfl)
  rw[hC,hn]at this
  exact this
 have R0:RelSt C ⟨putPs r.params.toList args sl,extsOf pre 0,0⟩ {tmps:=putAll L.params vals L.tmps,defers:=[]} w:=by
  refine relS_start (P:=P) (by show (putAll L.params vals L.tmps).size=r.nt;rw[putAll_size];exact l6) rfl (fun t=>?_) RH rfl rfl (fun _ _ h=>h) hX hg
  have:=putPs_rel (ps:=r.params.toList) (xs:=args) (vs:=vals.toList) (s:=sl) (tmps:=L.tmps) (by simpa using hlen) (by simpa using hsz) (fun p hp=>by
   have:=allB_iff.1 hps p hp
   rw[l6]
   exact Nat.lt_of_succ_le (by simpa [Nat.blt] using this)) (fun j x v hx hv=>hargs j x v hx (by simpa using hv)) hsl t
  show RelAV _ _ _ _ _ ((putAll L.params vals L.tmps).getD t undef)
  unfold putAll
  rw[l3,←Array.foldl_toList,Array.toList_zip]
  exact this
 have h1x:=hx (Mach.of P I) rfl rfl
 refine roundIn_of_wpIn (F:=Fence.wide) trivial ?_
 rw[l4,l5]
 refine wpIn_mono (exec_sound (M:=Mach.of P I) (ro:=some l) hti h1 hdr' r.assign _ _ C _ w rfl rfl rfl (fun h=>by cases h) h1x R0) ?_
 intro e a1 w1 hq
 cases e with
 | normal=>
  obtain⟨C1,hle,σ1,hk1,g1,R1⟩:=hq
  obtain⟨d1,d2,d3⟩:=hle.down R1
  have hXl1:∀o,C1.X l o:=fun o=>hle.X l o (hXl o)
  have hl1:w1.heap[l]?=some (.loop L):=(d1.block l hlt (noz RH hXl)).trans hl
  have hlt1:l<w1.heap.size:=(Array.getElem?_eq_some_iff.1 hl1).1
  refine⟨w1.putObj l (.loop {L with state:=.busy}),run_beginRound hl1 l1,?_⟩
  have A:ApartW (fun b=>b=l) w1 (w1.putObj l (.loop {L with state:=.busy})):=⟨rfl,rfl,rfl,by simp,fun b _ hb=>World.putObj_heap_other hb⟩
  have hl2:(w1.putObj l (.loop {L with state:=.busy})).heap[l]?=some (.loop {L with state:=.busy}):=World.putObj_heap_same hlt1
  have hc1:C1.M.cl=false:=by rw[hle.M];rfl
  obtain⟨C2,c1,c2,c3,c4,c5,c6,c7,c8,R2⟩:=R1.turned (a':={tmps:=a1.tmps,defers:=[]}) A World.putObj_size (fun b o hb=>by subst hb;exact hXl1 o) (fun b hb hd=>(R1.inv.2 b hb).2 0 (.inr (by subst hd;exact hXl1 0))) rfl (some l) (fun l' hl'=>by cases hl';exact⟨⟨_,hl2⟩,hXl1⟩) rfl hc1
  have ha1:a1={tmps:=a1.tmps,defers:=[]}:=by
   have hd:=R1.marks hc1
   rw[hle.same (by simp[C])]at hd
   show a1=⟨a1.tmps,[]⟩
   rw[←show a1.defers=[]from hd]
  rw[ha1]
  refine wpIn_mono (exec_sound (M:=Mach.of P I) (ro:=some l) hti h1 hdr' r.body σ1 _ C2 _ _ (c1.trans hle.M) (c2.trans hle.nt) c4 (fun h=>by cases h) hk1 ⟨g1,R2⟩) ?_
  have fin:∀(e:AExit) (a2:Act) (w3:World),(∃C3,CxLe C2 C3∧∃σ,(∃post new,Q (jumpOf e) post new∧FinR σ post new)∧RelSt C3 σ a2 w3)→
    ∃v w',(Instr.endRound l ((jumpOf e).map jumpCode)).run P w3= .ok v w'∧∃jump g' post new,Q jump post new∧Ending.returned v= .returned (.bool jump.isNone)∧RoundPost l L w X g pre jump post new w' g':=by
   rintro e a2 w3 ⟨C3,hle3,σ0,⟨post,new,hQ,gs,hfin⟩,R3⟩
   obtain⟨σ,hweak,nm,hnd,hpost,hnewo,hhand⟩:=gh_weak hfin
   obtain⟨g3,R3⟩:=hweak _ _ _ R3
   obtain⟨f1,f2,f3⟩:=hle3.down R3
   have hXl3:∀o,C3.X l o:=fun o=>hle3.X l o (by rw[c3];exact hXl1 o)
   have hz2:∀o,¬C2.Z0 l o:=by rw[c6];exact noz R1.heap hXl1
   have hl3:w3.heap[l]?=some (.loop {L with state:=.busy}):=by
    have:=f1.block l (by rw[c5,World.putObj_size];exact hlt1) hz2
    rw[c5]at this
    exact this.trans hl2
   have hlt3:l<w3.heap.size:=(Array.getElem?_eq_some_iff.1 hl3).1
   refine⟨_,_,run_endRound _ hl3,?_⟩
   have A3:ApartW (fun b=>b=l) w3 (w3.putObj l (.loop {L with state:=if ((jumpOf e).map jumpCode).isNone then .ready else .done,pending:=(jumpOf e).map jumpCode})):=⟨rfl,rfl,rfl,by simp,fun b _ hb=>World.putObj_heap_other hb⟩
   have hc3:C3.M.cl=false:=by rw[hle3.M,c1];exact hc1
   obtain⟨C4,k1,k2,k3,k4,k5,k6,k7,k8,R4⟩:=R3.turned (a':={tmps:=a2.tmps,defers:=[]}) A3 World.putObj_size (fun b o hb=>by subst hb;exact hXl3 o) (fun b hb hd=>(R3.inv.2 b hb).2 0 (.inr (by subst hd;exact hXl3 0))) rfl none (fun l' hl'=>by cases hl') rfl hc3
   obtain⟨q1,q2,q3,_⟩:=finish (X:=X) R4 (fun b o hx=>by rw[k3];exact hle3.X b o (by rw[c3];exact hle.X b o hx)) (nodupB_iff.1 hnd) hpost hnewo hhand
   have isn:((jumpOf e).map jumpCode).isNone=(jumpOf e).isNone:=by cases jumpOf e<;>rfl
   have zin:∀b o,C2.Z0 b o→zone g (heapOf pre) b o∨w.heap.size≤b:=by
    intro b o hz
    rw[c6]at hz
    obtain⟨i,ob,hi,h3⟩:=hz
    exact d3 i ob b o hi h3
   have fr:Frame' (fun b o=>zone g (heapOf pre) b o∨b=l) w (w3.putObj l (.loop {L with state:=if ((jumpOf e).map jumpCode).isNone then .ready else .done,pending:=(jumpOf e).map jumpCode})):=by
    have s1:Frame' (fun b o=>zone g (heapOf pre) b o∨b=l) w w1:=d1.weaken (fun b o h=>.inl h)
    have one:∀{a b:World},ApartW (fun b=>b=l) a b→Frame' (fun b _=>b=l) a b:=fun A=>⟨A.os,A.tape,A.output,A.size,fun b hb hn=>A.block b hb (fun e=>hn 0 e),fun b o u hu hn=>A.cell hu hn⟩
    have s2:=s1.then (one A) (fun p o h=>.inl (.inr h))
    have s3:=s2.then (by have:=f1;rw[c5]at this;exact this) (fun p o h=>(zin p o h).imp .inl id)
    exact s3.then (one A3) (fun p o h=>.inl (.inr h))
   refine⟨jumpOf e,fun i=>g3 (renN nm σ.next i),post,new,hQ,by rw[isn],⟨q1,fr,?_,fun j=>?_,fun i ob b o hi hb=>?_,q3⟩⟩
   ·rw[World.putObj_heap_same hlt3,isn]
   ·have e1:=d2 j
    have e2:=f2 j
    rw[c7]at e2
    exact e1.trans e2
   ·obtain⟨j,ob',hj,hz⟩:=q2 i ob b o hi hb
    rcases f3 j ob' b o hj hz with h | h
    ·exact zin b o h
    ·rw[c5,World.putObj_size]at h
     exact .inr (Nat.le_trans d1.size h)
  intro e a2 w3 hq
  cases e with
  | normal=>exact fin .normal a2 w3 hq
  | ret=>exact fin .ret a2 w3 hq
  | exit id=>exact fin (.exit id) a2 w3 hq
  | goto l=>exact hq.elim
  | panic ch=>obtain⟨C',hle',v0,s,h,nx,hpn,_⟩:=hq;rw[hle'.M,c1.trans hle.M]at hpn;exact hpn.elim
  | outgrown=>exact hq.elim
 | exit id=>obtain⟨_,_,_,hk,_⟩:=hq;exact hk.elim
 | ret=>obtain⟨_,_,_,hk,_⟩:=hq;exact hk.elim
 | goto l=>exact hq.elim
 | panic ch=>obtain⟨C',hle,v0,s,h,nx,hpn,_⟩:=hq;rw[hle.M]at hpn;exact hpn.elim
 | outgrown=>exact hq.elim
end Go.AM
namespace Go.AM
open Go Go.RowKit
theorem draw_P {P:Program}{ti:Types}(hti:TIok P ti) (h1:TIone ti) (hm:P.follows .mixedOrders=true):∀C:Cx,C.P=P→DrawOK C (execDraw ti C.M C.nt):=fun C hC=>by
 have hti':TIok C.P ti:=by rw[hC];exact hti
 have hm':C.P.follows .mixedOrders=true:=by rw[hC];exact hm
 exact draw_ok hti' h1 hm'
theorem TripK.of {P:Program}{I:Inv}{ti:Types}(hti:TIok P ti) (h1:TIone ti) (hm:P.follows .mixedOrders=true) {f:FuncId}{fn:Func}{c:Code}(hf:P.funcs[f]?=some fn) (hb:fn.body=some c)
  (hname:(fn.name== "runtime.NumGoroutine")=false) {args:List V1} {pre:List AObj} {Q:AV→List AObj→List AObj→Prop} {nt:Nat} (hnt:fn.ntmps=nt) (hargs:Nat.ble args.length nt=true) {rs:List ResultVar} (hrs:fn.results.toList=rs)
  (hx:∀M:Mach,M.P=P→M.I=I→exec M ti nt (execDraw ti M nt) c ⟨slotsOf args 0,extsOf pre 0,0⟩ fun e σ=>match e with
   | .exit _=>False
   | .normal=>∃res post new,Q res post new∧Fin' ti rs σ res post new
   | .ret=>∃res post new,Q res post new∧Fin' ti rs σ res post new):TripK P I f args pre Q:=by
 subst hnt
 subst hrs
 exact TripK.intro (fun M nt=>execDraw ti M nt) hti h1 (draw_P hti h1 hm) hf hb hname (Nat.le_of_ble_eq_true hargs) hx
theorem Trip.of {P:Program}{I:Inv}{ti:Types}(hti:TIok P ti) (h1:TIone ti) (hm:P.follows .mixedOrders=true) {f:FuncId}{fn:Func}{c:Code}(hf:P.funcs[f]?=some fn) (hb:fn.body=some c)
  (hname:(fn.name== "runtime.NumGoroutine")=false) {args:List V1} {pre post new:List AObj} {res:AV} {nt:Nat} (hnt:fn.ntmps=nt) (hargs:Nat.ble args.length nt=true) {rs:List ResultVar} (hrs:fn.results.toList=rs)
  (hx:∀M:Mach,M.P=P→M.I=I→exec M ti nt (execDraw ti M nt) c ⟨slotsOf args 0,extsOf pre 0,0⟩ fun e σ=>match e with
   | .exit _=>False
   | .normal=>∃r p n,(r=res∧p=post∧n=new)∧Fin' ti rs σ r p n
   | .ret=>∃r p n,(r=res∧p=post∧n=new)∧Fin' ti rs σ r p n):Trip P I f args pre res post new:=
 TripK.of hti h1 hm hf hb hname hnt hargs hrs hx
theorem fin_go {ti:Types}{rs:List ResultVar}{σ:St}{res:AV}{post new:List AObj}(h:withRes ti σ rs fun xs=>∃nm:List Id,nodupB nm=true∧mkRes xs=res.ren (renN nm σ.next)∧postOK (getH σ.heap) (renN nm σ.next) post 0∧newOK (getH σ.heap) (renN nm σ.next) new nm∧handOK post nm):
  ∃r p n,(r=res∧p=post∧n=new)∧Fin' ti rs σ r p n:=⟨_,_,_,⟨rfl,rfl,rfl⟩,[],h⟩
theorem TripK.at {P:Program}{I:Inv}{M:Mach}{f:FuncId}{args:List V1}{pre:List AObj}{Q:AV→List AObj→List AObj→Prop}(hP:M.P=P) (hI:M.I=I) (h:TripK P I f args pre Q):TripK M.P M.I f args pre Q:=by rw[hP,hI];exact h
theorem RoundK.of {P:Program}{I:Inv}{M:Mach}(hP:M.P=P) (hI:M.I=I) {ti:Types}(hti:TIok P ti) (h1:TIone ti) (hm:P.follows .mixedOrders=true) {r:RF}{sl:List (Nat×AV)}{args:List V1}{pre:List AObj}{Q:Jump→List AObj→List AObj→Prop}{nt:Nat}{ps:List Tmp}{ca cb:Code}
  (hnt:r.nt=nt) (hpl:r.params.toList=ps) (ha:r.assign=ca) (hb:r.body=cb) (hlen:args.length=ps.length) (hps:allB (fun p=>Nat.blt p nt) ps=true)
  (hx:∀M:Mach,M.P=P→M.I=I→exec M ti nt (execDraw ti M nt) ca ⟨putPs ps args sl,extsOf pre 0,0⟩ fun e σ=>match e with
   | .normal=>exec M ti nt (execDraw ti M nt) cb σ fun e σ=>∃post new,Q (jumpOf e) post new∧FinR σ post new
   | _=>False):RoundK M.P M.I r sl args pre Q:=by
 subst hnt
 subst hpl
 subst ha
 subst hb
 rw[hP,hI]
 exact RoundK.intro (fun M nt=>execDraw ti M nt) hti h1 (draw_P hti h1 hm) (by simpa using hlen) hps hx
section
variable {M:Mach}{A:Bool→Prop}
end
section
variable {M:Mach}{f:FuncId}{args:List V1}{fresh:Nat}{h:Heap}{k:Out→Prop}{targs:List V1}{res:AV}
end
theorem drawn {M:Mach}{p:Unit→Prop}{K:Prop}(hd:p ()) (hk:K):M.lock p∧K:=⟨(M.lock_iff _).2 hd,hk⟩
section
variable {M:Mach}{L L':List D}{N i:Int}(hN:0≤N∧L.length=N.toNat)
include hN
end
end Go.AM
namespace Go.AM
open Go Go.RowKit
inductive Shape (ti:Types):TypeId→List D→Prop where
 | bool {t x} (b:Bool) (h:ti t=some x) (hd:x.desc= .bool):Shape ti t [.bool b]
 | int {t x k} (n:Int) (h:ti t=some x) (hd:x.desc= .int k) (hw:(Lit.int k n).wf=true):Shape ti t [.int k n]
 | str {t x} (s:ByteArray) (h:ti t=some x) (hd:x.desc= .string) (hs:s.size≤maxLen):Shape ti t [.str s]
 | slice {t x e y} (rows:List D) (h:ti t=some x) (hd:x.desc= .slice e) (he:ti e=some y) (hl:rows.length≤maxLen)
   (hf:∀r∈rows,r.fits (rowD y.desc) y.size) (hr:∀r∈rows,Shape ti e r.cells):Shape ti t [.list (rowD y.desc) y.size rows]
 | struct {t x fs} (ds:List D) (h:ti t=some x) (hd:x.desc= .struct fs) (hl:ds.length=x.size) (hg:∀c∈ds,c.isAgg=false)
   (hr:∀f∈fs.toList,∀y,ti f.type=some y→Shape ti f.type ((ds.drop f.offset).take y.size)):Shape ti t ds
def chain (ti:Types):Nat→List Field→Option Nat
 | off,[]=>some off
 | off,f::r=>if f.offset=off then match ti f.type with
   | some y=>chain ti (off+y.size) r
   | none=>none
  else none
theorem chain_le {ti:Types}:∀{fs:List Field}{off tot:Nat},chain ti off fs=some tot→off≤tot∧∀f∈fs,off≤f.offset∧∃y,ti f.type=some y
 | [],off,tot,h=>by simp[chain]at h;subst h;exact⟨Nat.le_refl _,by simp⟩
 | f::fs,off,tot,h=>by
  unfold chain at h
  split at h
  ·rename_i ho
   split at h
   ·rename_i y hy
    obtain⟨h1,h2⟩:=chain_le h
    refine⟨by omega,fun f' hf'=>?_⟩
    rcases List.mem_cons.1 hf' with rfl | hf'
    ·exact⟨by omega,y,hy⟩
    ·exact⟨by have:=(h2 f' hf').1;omega,(h2 f' hf').2⟩
   ·simp at h
  ·simp at h
def plainB (ti:Types) (T:List TypeId):Bool:=
 T.all fun t=>match ti t with
  | some x=>match x.desc with
   | .bool | .int _ | .string=>x.size==1
   | .slice e=>T.contains e&&(x.size==1)&&(match ti e with
    | some y=>decide (0<y.size)&&(rowD y.desc || y.size==1)
    | none=>false)
   | .struct fs=>(chain ti 0 fs.toList==some x.size)&&fs.toList.all fun f=>T.contains f.type
   | _=>false
  | none=>false
theorem choose_list {Q:Nat→D→Prop}:∀n,(∀i,i<n→∃r,Q i r)→∃l:List D,l.length=n∧∀i r,l[i]?=some r→Q i r
 | 0,_=>⟨[],rfl,by simp⟩
 | n+1,h=>by
  obtain⟨l,h1,h2⟩:=choose_list n (fun i hi=>h i (by omega))
  obtain⟨r,hr⟩:=h n (by omega)
  refine⟨l++[r],by simp[h1],fun i r' hi=>?_⟩
  by_cases hl:i<l.length
  ·rw[List.getElem?_append_left hl]at hi;exact h2 i r' hi
  ·rw[List.getElem?_append_right (by omega)]at hi
   have hin:i=n:=by
    by_cases he:i=n
    ·exact he
    ·rw[List.getElem?_eq_none (by simp;omega)]at hi;simp at hi
   subst hin
   rw[h1]at hi
   simp at hi
   subst hi
   exact hr
def RelDs (w:World) (Z:Zone) (ds:List D) (cs:List Value):Prop:=
 ds.length=cs.length∧(∀c∈ds,c.isAgg=false)∧∀(j:Nat) c u,ds[j]?=some c→cs[j]?=some u→RelD w Z c u
theorem relDs_one {w:World}{Z:Zone}{c:D}{u:Value}(hc:c.isAgg=false) (h:RelD w Z c u):RelDs w Z [c] [u]:=
 ⟨rfl,by simpa using hc,fun j c' u' h1 h2=>by
  match j with
  | 0=>simp at h1 h2;subst h1;subst h2;exact h
  | j+1=>simp at h1⟩
theorem conv_fields {w:World}{Z:Zone}{ti:Types}{cs:List Value}:∀(fs:List Field) (off tot:Nat),chain ti off fs=some tot→tot≤cs.length→
  (∀f∈fs,∀y,ti f.type=some y→∃ds,Shape ti f.type ds∧RelDs w Z ds ((cs.drop f.offset).take y.size))→
  ∃ds,RelDs w Z ds ((cs.drop off).take (tot - off))∧∀f∈fs,∀y,ti f.type=some y→Shape ti f.type ((ds.drop (f.offset - off)).take y.size)
 | [],off,tot,h,_,_=>by
  simp[chain]at h
  subst h
  exact⟨[],⟨by simp,by simp,by simp⟩,by simp⟩
 | f::fs,off,tot,h,hl,hx=>by
  unfold chain at h
  split at h
  ·rename_i ho
   split at h
   ·rename_i y hy
    obtain⟨hle,hoff⟩:=chain_le h
    obtain⟨ds',⟨a1,a2,a3⟩,hs'⟩:=conv_fields fs _ tot h hl (fun f' hf'=>hx f' (List.mem_cons_of_mem _ hf'))
    obtain⟨p,hp,b1,b2,b3⟩:=hx f (by simp) y hy
    rw[ho]at b1 b3
    have hpl:p.length=y.size:=by rw[b1];simp;omega
    refine⟨p++ds',⟨?_,?_,?_⟩,fun f' hf' y' hy'=>?_⟩
    ·simp at a1 ⊢;omega
    ·intro c hc
     rcases List.mem_append.1 hc with hc | hc
     ·exact b2 c hc
     ·exact a2 c hc
    ·intro j c u hc hu
     rw[List.getElem?_take]at hu
     split at hu
     ·rename_i hj
      rw[List.getElem?_drop]at hu
      by_cases hjp:j<p.length
      ·rw[List.getElem?_append_left hjp]at hc
       refine b3 j c u hc ?_
       rw[List.getElem?_take,if_pos (by omega),List.getElem?_drop];exact hu
      ·rw[List.getElem?_append_right (by omega)]at hc
       refine a3 (j - p.length) c u hc ?_
       rw[List.getElem?_take,if_pos (by omega),List.getElem?_drop,←hu]
       congr 1
       omega
     ·simp at hu
    ·rcases List.mem_cons.1 hf' with rfl | hf'
     ·rw[hy]at hy'
      obtain rfl:y=y':=by simpa using hy'
      rw[ho,Nat.sub_self,List.drop_zero,List.take_append_of_le_length (by omega),List.take_of_length_le (by omega)]
      exact hp
     ·have h1:=(hoff f' hf').1
      have:=hs' f' hf' y' hy'
      rw[List.drop_append,List.drop_of_length_le (by omega),List.nil_append]
      rw[show f'.offset - off - p.length=f'.offset - (off+y.size)from by omega]
      exact this
   ·simp at h
  ·simp at h
theorem cellsOf_ti {P:Program}{ti:Types}(hti:TIok P ti) {t:TypeId}{x:TI}(h:ti t=some x):P.cellsOf t=x.size:=by
 obtain⟨_,i,h1,h2,_⟩:=hti t x h
 simp[Program.cellsOf,h1,h2]
theorem conv {H:Type}{enc:TypeId×Value→H}{P:Program}{ti:Types}(hti:TIok P ti) {T:List TypeId}(hT:plainB ti T=true) {w:World}{base:Nat}{spare:Nat→Bool}{held:Bool}{Z:Zone}(hZ:∀b o,¬Z b o):
  ∀(fuel:Nat) (t:TypeId) (cs:List Value) (d:DataW H) (ps:List MemPlace),t∈T→DataW.trod enc P w base spare held fuel t cs=some (d,ps)→∃ds,Shape ti t ds∧RelDs w Z ds cs
 | 0,t,cs,d,ps,_,h=>by simp[DataW.trod]at h
 | fuel+1,t,cs,d,ps,ht,h=>by
  have hp:=hT
  unfold plainB at hp
  have hp:=List.all_eq_true.1 hp t ht
  split at hp
  ·rename_i x hx
   have hu:=(hti t x hx).1
   have hcs:=cellsOf_ti hti hx
   split at hp
   ·rename_i hd
    rw[hd]at hu
    unfold DataW.trod at h
    simp only[hu]at h
    split at h<;>simp_all
    exact⟨_,.bool _ hx hd,relDs_one rfl (.bool _)⟩
   ·rename_i k hd
    rw[hd]at hu
    unfold DataW.trod at h
    simp only[hu]at h
    split at h<;>simp_all
    obtain⟨⟨rfl,hw⟩,_⟩:=h
    exact⟨_,.int _ hx hd hw,relDs_one rfl (.int _ _)⟩
   ·rename_i hd
    rw[hd]at hu
    unfold DataW.trod at h
    simp only[hu]at h
    split at h<;>simp_all
    exact⟨_,.str _ hx hd h.1,relDs_one rfl (.str _)⟩
   ·rename_i e hd
    rw[hd]at hu
    simp only[Bool.and_eq_true]at hp
    obtain⟨⟨he,_⟩,hp⟩:=hp
    have he:e∈T:=by simpa using he
    split at hp
    ·rename_i y hy
     simp only[Bool.and_eq_true,decide_eq_true_eq]at hp
     have hey:=cellsOf_ti hti hy
     unfold DataW.trod at h
     simp only[hu]at h
     split at h<;>rename_i hq<;>try cases hq
     ·exact⟨_,.slice [] hx hd hy (by simp) (by simp) (by simp),relDs_one rfl (relD_nil _ _)⟩
     ·rename_i a len cap
      rw[hey]at h
      split at h
      ·rename_i hg
       obtain⟨elems,he1,_⟩:=Option.bind_eq_some_iff.1 h
       have hel:elems.length=len:=by simpa using mapM_some_length he1
       have each:∀i,i<len→∃cs' ds,(w.cells? base (a.add (i*y.size)) y.size)=some cs'∧Shape ti e ds∧RelDs w Z ds cs':=by
        intro i hi
        have h1:=mapM_some_get he1 i i (by simp[hi])
        rw[List.getElem?_eq_getElem (by omega:i<elems.length)]at h1
        obtain⟨cs',h2,h3⟩:=Option.bind_eq_some_iff.1 h1
        obtain⟨ds,h4,h5⟩:=conv hti hT hZ fuel e cs' _ _ he h3
        exact⟨cs',ds,h2,h4,h5⟩
       have hspot:0<len→a.spot=none:=by
        intro hl
        obtain⟨cs',_,h2,_⟩:=each 0 hl
        obtain⟨_,h3,h4⟩:=World.cells?_some h2
        have h5:=h4 0 hp.1
        rw[List.getElem?_eq_getElem (by omega)]at h5
        simp only[Nat.zero_mul,Addr.add,if_true]at h5
        unfold World.cell? at h5
        split at h5
        ·split at h5
         ·cases h5
         ·rename_i hs;simpa using hs
        ·cases h5
       obtain⟨rows,hrl,hrows⟩:=choose_list (Q:=fun i r=>r.fits (rowD y.desc) y.size∧Shape ti e r.cells∧∀(j:Nat) c,r.cells[j]?=some c→
         ∃u,w.cell? ⟨a.block,a.off+(i*y.size+j),none⟩=some u∧RelD w Z c u) len (fun i hi=>by
        obtain⟨cs',ds,h2,h3,h4⟩:=each i hi
        obtain⟨_,h5,h6⟩:=World.cells?_some h2
        have hdl:ds.length=y.size:=h4.1.trans h5
        obtain⟨r,hr1,hr2⟩:∃r:D,r.cells=ds∧r.isAgg=rowD y.desc:=by
         cases hrw:rowD y.desc with
         | true=>exact⟨.agg ds,rfl,rfl⟩
         | false=>
          rw[hrw]at hp
          have:y.size=1:=by simpa using hp.2
          obtain⟨c,rfl⟩:=List.length_eq_one_iff.1 (hdl.trans this)
          have hc:=h4.2.1 c (by simp)
          exact⟨c,by cases c<;>first | rfl | simp[D.isAgg]at hc,hc⟩
        refine⟨r,⟨hr2,by rw[hr1,hdl],by rw[hr1];exact h4.2.1⟩,by rw[hr1];exact h3,fun j c hc=>?_⟩
        rw[hr1]at hc
        have hj:j<y.size:=by rw[←hdl];exact (List.getElem?_eq_some_iff.1 hc).1
        have h7:=h6 j hj
        have ha:(a.add (i*y.size)).add j=⟨a.block,a.off+(i*y.size+j),none⟩:=by
         have:=hspot (by omega)
         obtain⟨ab,ao,asp⟩:=a
         simp only at this
         subst this
         unfold Addr.add
         split<;>split<;>simp_all<;>omega
        rw[ha,List.getElem?_eq_getElem (by omega:j<cs'.length)]at h7
        exact⟨_,h7,h4.2.2 j c _ hc (List.getElem?_eq_getElem (by omega:j<cs'.length))⟩)
       refine⟨_,.slice rows hx hd hy (by omega) (fun r hr=>?_) (fun r hr=>?_),relDs_one rfl ?_⟩
       ·obtain⟨i,hi⟩:=List.mem_iff_getElem?.1 hr
        exact (hrows i r hi).1
       ·obtain⟨i,hi⟩:=List.mem_iff_getElem?.1 hr
        exact (hrows i r hi).2.1
       ·rw[←hrl]
        refine .list _ _ rows (some a) cap a.block a.off (fun i j=>(w.cell? ⟨a.block,a.off+(i*y.size+j),none⟩).getD undef) (by omega) hg.2.2 (fun r hr=>?_) (fun hne=>?_) (fun i r j c hr hc=>?_) (fun i r j c hr hc=>?_)
        ·obtain⟨i,hi⟩:=List.mem_iff_getElem?.1 hr
         exact (hrows i r hi).1
        ·have:=hspot (by rw[←hrl];exact List.length_pos_iff.2 hne)
         obtain⟨ab,ao,asp⟩:=a
         simp only at this
         rw[this]
        ·obtain⟨u,hu1,_⟩:=(hrows i r hr).2.2 j c hc
         rw[hu1]
         exact⟨rfl,hZ _ _⟩
        ·obtain⟨u,hu1,hu2⟩:=(hrows i r hr).2.2 j c hc
         rw[hu1]
         exact hu2
      ·cases h
     ·cases h
    ·simp at hp
   ·rename_i fs hd
    rw[hd]at hu
    simp only[Bool.and_eq_true,beq_iff_eq]at hp
    obtain⟨hch,hfs⟩:=hp
    unfold DataW.trod at h
    simp only[hu]at h
    split at h<;>rename_i hq<;>try cases hq
    ·obtain⟨xs,hxs,_⟩:=Option.map_eq_some_iff.1 h
     obtain⟨ds,h1,h2⟩:=conv_fields (w:=w) (Z:=Z) (cs:=cs) fs.toList 0 x.size hch (by omega) (fun f hf y hy=>by
      obtain⟨i,hi⟩:=List.mem_iff_getElem?.1 hf
      have h3:=mapM_some_get hxs i f hi
      have hil:i<xs.length:=by rw[mapM_some_length hxs];exact (List.getElem?_eq_some_iff.1 hi).1
      rw[List.getElem?_eq_getElem hil,cellsOf_ti hti hy]at h3
      have hfT:f.type∈T:=by simpa using List.all_eq_true.1 hfs f hf
      exact conv hti hT hZ fuel f.type _ _ _ hfT h3)
     rw[List.drop_zero,Nat.sub_zero,List.take_of_length_le (by omega)]at h1
     exact⟨ds,.struct ds hx hd (by rw[h1.1];omega) h1.2.1 (fun f hf y hy=>by simpa using h2 f hf y hy),h1⟩
    ·cases h
   ·simp at hp
  ·simp at hp
end Go.AM
namespace Go.AM
open Go
structure AllR (L L':List D) (r:Nat→Bool) (R:Bool):Prop where
 len:L.length≠L'.length→R=false
 bad:∀i,i<L.length→i<L'.length→r i=false→R=false
 good:L.length=L'.length→(∀i,i<L.length→r i=true)→R=true
theorem AllR.of (L L':List D) (r:Nat→Bool):AllR L L' r (decide (L.length=L'.length∧∀i,i<L.length→r i=true)) where
 len h:=by simp[h]
 bad i h1 h2 h:=by
  rw[decide_eq_false_iff_not]
  rintro⟨_,h3⟩
  rw[h3 i h1]at h
  cases h
 good h1 h2:=by rw[decide_eq_true_iff];exact⟨h1,h2⟩
section
variable {ti:Types}{t e:TypeId}{x y:TI}{ds:List D}{fs:Array Field}{k:IntKind}
theorem Shape.int_inv (h:Shape ti t ds) (hx:ti t=some x) (hd:x.desc= .int k):∃n,ds=[.int k n]∧(Lit.int k n).wf=true:=by
 cases h<;>simp_all
theorem Shape.struct_inv (h:Shape ti t ds) (hx:ti t=some x) (hd:x.desc= .struct fs):
  ds.length=x.size∧(∀c∈ds,c.isAgg=false)∧∀f∈fs.toList,∀y,ti f.type=some y→Shape ti f.type ((ds.drop f.offset).take y.size):=by
 cases h with
 | struct ds h1 h2 h3 h4 h5=>
  rw[hx]at h1
  obtain rfl:=Option.some.inj h1
  rw[hd]at h2
  obtain rfl:=TypeDesc.struct.inj h2
  exact⟨h3,h4,h5⟩
 | _=>simp_all
end
open Classical in
theorem AllR.same (L L':List D):AllR L L' (fun i=>decide (L[i]?=L'[i]?)) (decide (L=L')) where
 len h:=by rw[decide_eq_false_iff_not];rintro rfl;exact h rfl
 bad i h1 h2 h:=by
  rw[decide_eq_false_iff_not]at h ⊢
  rintro rfl;exact h rfl
 good h1 h2:=by
  rw[decide_eq_true_iff]
  refine List.ext_getElem? fun i=>?_
  by_cases hi:i<L.length
  ·exact of_decide_eq_true (h2 i hi)
  ·rw[List.getElem?_eq_none (by omega),List.getElem?_eq_none (by omega)]
def tyD (ti:Types) (t:TypeId):TI:=
 match ti t with
 | some x=>x
 | none=>⟨.bool,0,0,.bool false,[]⟩
theorem bytes_eq {a b:ByteArray}:(a.toList==b.toList)=true↔a=b:=by
 constructor
 ·intro h
  have h:=beq_iff_eq.1 h
  rw[ByteArray.toList_eq,ByteArray.toList_eq]at h
  exact ByteArray.ext (Array.ext' h)
 ·rintro rfl;simp
end Go.AM
namespace Go.AM
open Go
section
variable {α γ:Type}
def letF (z:Int) (k:Int→Option γ):Option γ:=k z
theorem letF_inv {z:Int}{k:Int→Option γ}{r:γ}(h:letF z k=some r):∃y,z=y∧k y=some r:=⟨z,rfl,h⟩
def lenF (L:List D) (k:Int→Option γ):Option γ:=k L.length
theorem lenF_inv (M:Mach) {L:List D}{k:Int→Option γ}{r:γ}(h:lenF L k=some r):∃y,M.lenI L=y∧k y=some r:=⟨L.length,M.lenI_eq L,h⟩
def szF (s:ByteArray) (k:Int→Option γ):Option γ:=k s.size
theorem szF_inv (M:Mach) {s:ByteArray}{k:Int→Option γ}{r:γ}(h:szF s k=some r):∃y,M.szI s=y∧k y=some r:=⟨s.size,M.szI_eq s,h⟩
def getF (L:List D) (i:Int) (k:D→Option γ):Option γ:=if 0≤i then (match L[i.toNat]? with | some x=>k x | none=>none)else none
theorem getF_inv {L:List D}{i:Int}{k:D→Option γ}{r:γ}(h:getF L i k=some r):∃x,(0≤i∧L[i.toNat]?=some x)∧k x=some r:=by
 unfold getF at h
 split at h
 ·rename_i h0
  split at h
  ·rename_i x hx
   exact⟨x,⟨h0,hx⟩,h⟩
  ·cases h
 ·cases h
def needF (p:Prop) [Decidable p] (x:Option γ):Option γ:=if p then x else none
theorem needF_inv {p:Prop} [Decidable p] {x:Option γ}{r:γ}(h:needF p x=some r):p∧x=some r:=by
 unfold needF at h
 split at h
 ·rename_i hp
  exact⟨hp,h⟩
 ·cases h
theorem ite_t {p:Prop} [Decidable p] {x y r:Option γ}(hp:p) (h:(if p then x else y)=r):x=r:=by rwa [if_pos hp]at h
theorem ite_f {p:Prop} [Decidable p] {x y r:Option γ}(hp:¬p) (h:(if p then x else y)=r):y=r:=by rwa [if_neg hp]at h
def appF (b:Nat) (L M:List D) (k:List D→Option γ):Option γ:=if L.length+M.length≤maxLen∧(L.length+M.length)*b≤140737488355328 then k (L++M)else none
theorem appF_inv {b:Nat}{L M:List D}{k:List D→Option γ}{r:γ}(h:appF b L M k=some r):∃out,(L.length+M.length≤maxLen∧(L.length+M.length)*b≤140737488355328)∧L++M=out∧k out=some r:=by
 unfold appF at h
 split at h
 ·rename_i hb
  exact⟨_,hb,rfl,h⟩
 ·cases h
def sliceF (L:List D) (l u:Int) (k:List D→Option γ):Option γ:=if 0≤l∧l≤u∧u≤(L.length:Int)then k ((L.take u.toNat).drop l.toNat)else none
theorem sliceF_inv (M:Mach) {L:List D}{l u:Int}{k:List D→Option γ}{r:γ}(h:sliceF L l u k=some r):∃out,(0≤l∧l≤u∧u≤M.lenI L)∧(L.take u.toNat).drop l.toNat=out∧k out=some r:=by
 unfold sliceF at h
 split at h
 ·rename_i hb
  exact⟨_,by rw[M.lenI_eq];exact hb,rfl,h⟩
 ·cases h
def fromF (L:List D) (l:Int) (k:List D→Option γ):Option γ:=if 0≤l∧l≤(L.length:Int)then k (L.drop l.toNat)else none
theorem fromF_inv (M:Mach) {L:List D}{l:Int}{k:List D→Option γ}{r:γ}(h:fromF L l k=some r):∃out,(0≤l∧l≤M.lenI L∧M.lenI L≤M.lenI L)∧(L.take (M.lenI L).toNat).drop l.toNat=out∧k out=some r:=by
 unfold fromF at h
 split at h
 ·rename_i hb
  exact⟨_,by rw[M.lenI_eq];exact⟨hb.1,hb.2,Int.le_refl _⟩,rfl,by rw[M.lenI_eq];simpa using h⟩
 ·cases h
def slice3F (L:List D) (l u v:Int) (k:List D→Option γ):Option γ:=if 0≤l∧l≤u∧u≤(L.length:Int)∧v=u then k ((L.take u.toNat).drop l.toNat)else none
theorem slice3F_inv (M:Mach) {L:List D}{l u v:Int}{k:List D→Option γ}{r:γ}(h:slice3F L l u v k=some r):∃out,(0≤l∧l≤u∧u≤M.lenI L∧v=u)∧(L.take u.toNat).drop l.toNat=out∧k out=some r:=by
 unfold slice3F at h
 split at h
 ·rename_i hb
  exact⟨_,by rw[M.lenI_eq];exact hb,rfl,h⟩
 ·cases h
open Classical in
noncomputable def nilF (L:List D) (A B:Option γ):Option γ:=if L=[]then (if A=B then B else none)else B
theorem nilF_inv {L:List D}{A B:Option γ}{r:γ}(h:nilF L A B=some r):B=some r∧(L=[]→A=some r):=by
 unfold nilF at h
 split at h
 ·split at h
  ·rename_i e;exact⟨h,fun _=>e▸h⟩
  ·cases h
 ·rename_i hn;exact⟨h,fun e=>absurd e hn⟩
theorem nilF_eq {L:List D}{A B:Option γ}(h:L=[]→A=B):nilF L A B=B:=by
 unfold nilF
 split
 ·rename_i e;rw[if_pos (h e)]
 ·rfl
theorem nil_both {L:List D}{K0 K1:Prop}(h0:K0) (h1:L=[]→K1):(L≠[]→K0)∧(L=[]→K1∧K0):=⟨fun _=>h0,fun e=>⟨h1 e,h0⟩⟩
def makeF (b:Nat) (z:D) (n m:Int) (k:List D→Option γ):Option γ:=if n=m∧0≤n∧n≤9223372036854775807∧(b:Int)*n≤281474976710656 then k (List.replicate n.toNat z)else none
theorem makeF_inv {b:Nat}{z:D}{n m:Int}{k:List D→Option γ}{r:γ}(h:makeF b z n m k=some r):∃out,(n=m∧0≤n∧n≤9223372036854775807∧(b:Int)*n≤281474976710656)∧List.replicate n.toNat z=out∧k out=some r:=by
 unfold makeF at h
 split at h
 ·rename_i hb
  exact⟨_,hb,rfl,h⟩
 ·cases h
def letL (L:List D) (k:List D→Option γ):Option γ:=k L
def scalB (L:List D):Bool:=L.all fun r=>r.cells.all fun c=>!isCon c
theorem scalB_iff {L:List D}:scalB L=true↔ScalRows L:=by
 simp[scalB,ScalRows]
def setF (L:List D) (i:Nat) (x:D) (k:List D→Option γ):Option γ:=k (L.set i x)
theorem setF_inv {L:List D}{i:Nat}{x:D}{k:List D→Option γ}{r:γ}(h:setF L i x k=some r):∃out,L.set i x=out∧k out=some r:=⟨_,rfl,h⟩
def getN (L:List D) (i:Nat) (k:D→Option γ):Option γ:=match L[i]? with | some x=>k x | none=>none
theorem getN_inv {L:List D}{i:Nat}{k:D→Option γ}{r:γ}(h:getN L i k=some r):∃x,L[i]?=some x∧k x=some r:=by
 unfold getN at h
 split at h
 ·rename_i x hx
  exact⟨x,hx,h⟩
 ·cases h
def subF (s:ByteArray) (l u:Int) (k:ByteArray→Option γ):Option γ:=if 0≤l∧l≤u∧u≤(s.size:Int)then k (s.extract l.toNat u.toNat)else none
theorem subF_inv (M:Mach) {s:ByteArray}{l u:Int}{k:ByteArray→Option γ}{r:γ}(h:subF s l u k=some r):∃out,(0≤l∧l≤u∧u≤M.szI s)∧s.extract l.toNat u.toNat=out∧k out=some r:=by
 unfold subF at h
 split at h
 ·rename_i hb
  exact⟨_,by rw[M.szI_eq];exact hb,rfl,h⟩
 ·cases h
def subToF (s:ByteArray) (l:Int) (k:ByteArray→Option γ):Option γ:=if 0≤l∧l≤(s.size:Int)then k (s.extract l.toNat s.size)else none
theorem subToF_inv (M:Mach) {s:ByteArray}{l:Int}{k:ByteArray→Option γ}{r:γ}(h:subToF s l k=some r):∃out,(0≤l∧l≤M.szI s∧M.szI s≤M.szI s)∧s.extract l.toNat (M.szI s).toNat=out∧k out=some r:=by
 unfold subToF at h
 split at h
 ·rename_i hb
  exact⟨_,by rw[M.szI_eq];exact⟨hb.1,hb.2,Int.le_refl _⟩,rfl,by rw[M.szI_eq];simpa using h⟩
 ·cases h
def atF (s:ByteArray) (i:Int) (k:Int→Option γ):Option γ:=if 0≤i then (match (s[i.toNat]?).map (fun u=>(u.toNat:Int))with | some z=>k z | none=>none)else none
theorem atF_inv {s:ByteArray}{i:Int}{k:Int→Option γ}{r:γ}(h:atF s i k=some r):∃z,(0≤i∧(s[i.toNat]?).map (fun u=>(u.toNat:Int))=some z)∧k z=some r:=by
 unfold atF at h
 split at h
 ·rename_i h0
  split at h
  ·rename_i z hz
   exact⟨z,⟨h0,hz⟩,h⟩
  ·cases h
 ·cases h
def catF (s t:ByteArray) (k:ByteArray→Option γ):Option γ:=if ((s.size+t.size:Nat):Int)≤IntKind.i64.max then k (s++t)else none
theorem catF_inv {s t:ByteArray}{k:ByteArray→Option γ}{r:γ}(h:catF s t k=some r):∃out,s++t=out∧((s.size+t.size:Nat):Int)≤IntKind.i64.max∧k out=some r:=by
 unfold catF at h
 split at h
 ·rename_i hb
  exact⟨_,rfl,hb,h⟩
 ·cases h
end
end Go.AM
namespace Go.AM
open Go
def sI (n:Nat) (z:Int):Nat×AV:=(n,.v (.d (.int .i64 z)))
def sU (n:Nat) (z:Int):Nat×AV:=(n,.v (.d (.int .u8 z)))
def sB (n:Nat) (b:Bool):Nat×AV:=(n,.v (.d (.bool b)))
def sT (n s:Nat) (l:List D):Nat×AV:=(n,.v (.d (.list true s l)))
def sF (n s:Nat) (l:List D):Nat×AV:=(n,.v (.d (.list false s l)))
def sL (n i:Nat):Nat×AV:=(n,.v (.c (.ptr (.loc i) 0)))
def sE (n i:Nat):Nat×AV:=(n,.v (.c (.ptr (.ext i) 0)))
def sS (n:Nat) (b:ByteArray):Nat×AV:=(n,.v (.d (.str b)))
abbrev LD:=List D
abbrev BA:=ByteArray
theorem itT {γ:Type}{x y r:Option γ}(h:(if true=true then x else y)=r):x=r:=h
theorem itF {γ:Type}{x y r:Option γ}(h:(if false=true then x else y)=r):y=r:=h
end Go.AM
namespace Go.AM
open Go Go.RowKit
def fcP (p:Id→Bool):FC→Bool
 | .p i=>p i
 | _=>true
def cvP (p:Id→Bool):CV→Bool
 | .ptr i _=>p i
 | .fn _ cap=>allB p cap
 | .lst i _ _ _=>p i
 | .sl i _=>p i
 | .map i=>p i
 | .ap i _ _ _ _=>p i
 | .ow i=>p i
 | .op i _ _ _=>p i
 | .yl i=>p i
 | .bm _ i=>p i
 | .fz _ cs=>allB (fcP p) cs
 | .fb i=>p i
 | _=>true
def v1P (p:Id→Bool):V1→Bool
 | .d _=>true
 | .c x=>cvP p x
 | .agg cs=>allB (cvP p) cs
def avP (p:Id→Bool):AV→Bool
 | .u=>true
 | .v x=>v1P p x
 | .t xs=>allB (v1P p) xs
 | .df _ cs _=>allB (fcP p) cs
def objP (p:Id→Bool):AObj→Bool
 | .cells cs=>allB (cvP p) cs
 | .tok ..=>true
 | .map ..=>true
 | .arr cs1 _ _ _ cs2=>match allB (cvP p) cs1 with
  | true=>allB (cvP p) cs2
  | false=>false
 | .tree _ _ _ _ foc=>match foc with
  | some x=>allB (cvP p) x.2
  | none=>true
 | .pmap _ _ _ _ foc=>match foc with
  | some x=>p x.2
  | none=>true
 | .part ..=>true
 | .fnl _ cs _=>allB (fcP p) cs
 | .gone=>true
 | .rnd _ sl=>allB (fun x=>avP p x.2) sl
 | .rndX _=>true
section
variable {p:Id→Bool}{f e:Id→Id}(hp:∀i,p i=true→f (e i)=i)
include hp
theorem ren_fcs {cs:List FC}(h:allB (fcP p) cs=true):(cs.map (FC.ren e)).map (FC.ren f)=cs:=by
 rw[List.map_map]
 rw[allB_iff]at h
 refine map_same fun c hc=>?_
 have:=h c hc
 cases c with
 | p i=>simp only[Function.comp,FC.ren];rw[hp _ this]
 | d x=>rfl
 | h=>rfl
theorem ren_cv {c:CV}(h:cvP p c=true):(c.ren e).ren f=c:=by
 cases c<;>simp only[CV.ren,cvP]at h ⊢
 ·rw[hp _ h]
 ·rw[List.map_map]
  congr 1
  rw[allB_iff]at h
  exact map_same fun i hi=>hp _ (h i hi)
 ·rw[hp _ h]
 ·rw[hp _ h]
 ·rw[hp _ h]
 ·rw[hp _ h]
 ·rw[hp _ h]
 ·rw[hp _ h]
 ·rw[hp _ h]
 ·rw[hp _ h]
 ·rw[ren_fcs hp h]
 ·rw[hp _ h]
theorem ren_cvs {cs:List CV}(h:allB (cvP p) cs=true):(cs.map (CV.ren e)).map (CV.ren f)=cs:=by
 rw[List.map_map]
 rw[allB_iff]at h
 exact map_same fun i hi=>ren_cv hp (h i hi)
theorem ren_v1 {c:V1}(h:v1P p c=true):(c.ren e).ren f=c:=by
 cases c<;>simp only[V1.ren,v1P]at h ⊢
 ·rw[ren_cv hp h]
 ·rw[ren_cvs hp h]
theorem ren_av {c:AV}(h:avP p c=true):(c.ren e).ren f=c:=by
 cases c<;>simp only[AV.ren,avP]at h ⊢
 ·rw[ren_v1 hp h]
 ·rw[List.map_map]
  congr 1
  rw[allB_iff]at h
  exact map_same fun i hi=>ren_v1 hp (h i hi)
 ·rw[ren_fcs hp h]
theorem ren_obj {c:AObj}(h:objP p c=true):(c.ren e).ren f=c:=by
 cases c<;>simp only[AObj.ren,objP]at h ⊢
 ·rw[ren_cvs hp h]
 ·split at h
  ·rename_i h1
   rw[ren_cvs hp h,ren_cvs hp h1]
  ·cases h
 ·congr 1
  split at h
  ·show some (_,List.map (CV.ren f) (List.map (CV.ren e) _))=_
   rw[ren_cvs hp h]
  ·rfl
 ·congr 1
  split at h
  ·show some (_,f (e _))=_
   rw[hp _ h]
  ·rfl
 ·rw[ren_fcs hp h]
 ·rw[List.map_map]
  congr 1
  rw[allB_iff]at h
  refine map_same fun i hi=>?_
  show (i.1,(i.2.ren e).ren f)=i
  rw[ren_av hp (h i hi)]
end
theorem weak_ren {σ σ':St}(r:Id→Id) (hext:∀j,r (.ext j)= .ext j) (hbig:∀n,σ'.next≤n→∃N,σ.next≤N∧r (.loc n)= .loc N)
  (hs:∀t,getS σ'.slots t= .u∨getS σ.slots t=(getS σ'.slots t).ren r) (hh:∀i o,getH σ'.heap i=some o→getH σ.heap (r i)=some (o.ren r))
  (hinj:∀i j o o',getH σ'.heap i=some o→getH σ'.heap j=some o'→r i=r j→i=j) (hlow:∀n,σ'.next≤n→getH σ'.heap (.loc n)=none):Weak σ σ':=by
 rintro C a w ⟨g,R⟩
 let g':Ghost:=fun i=>g (r i)
 have hz:∀b o,zone g' (getH σ'.heap) b o→zone g (getH σ.heap) b o:=by
  rintro b o ⟨i,ob,hi,h1⟩
  exact⟨r i,_,hh i ob hi,zone1_ren.2 h1⟩
 have hzz:∀b o,zor (zone g' (getH σ'.heap)) C.X b o→zor (zone g (getH σ.heap)) C.X b o:=fun b o hx=>hx.imp (hz b o) id
 have ht:∀i n sz e,getH σ'.heap i=some (.tok n sz e)→getH σ.heap (r i)=some (.tok n sz e):=fun i n sz e hi=>hh i _ hi
 have hw:∀i,isLive (getH σ'.heap i)=true→isLive (getH σ.heap (r i))=true:=by
  intro i hi
  cases hc:getH σ'.heap i with
  | none=>rw[hc]at hi;cases hi
  | some o=>
   rw[hh i o hc]
   rw[hc]at hi
   exact isLive_ren.trans hi
 have hdf:DefOK w (zor (zone g' (getH σ'.heap)) C.X) g' C.M.cl (getS σ'.slots DT) a.defers C.D:=by
  rcases hs DT with e | e
  ·rw[e];exact R.defers.un (by simp)
  ·have:=R.defers
   rw[e]at this
   exact DefOK.pull (r:=r) hzz (fun _=>rfl) this
 refine⟨g',R.size,hdf,fun t=>?_,⟨fun i o hi=>RelObj.pull (r:=r) (g':=g') hzz (fun _=>rfl) ht hw (R.heap.objs _ _ (hh i o hi)),fun i j oi oj b hi hj bi bj=>?_,fun i oi b o hi bi=>R.heap.apart _ _ b o (hh i oi hi) (Obk_ren.2 bi)⟩,R.frame,fun j=>?_,
  fun j ob b o hj hz'=>R.within _ _ b o (hh j ob hj) (zone1_ren.2 hz'),R.xs,fun n hn=>⟨?_,hlow n hn⟩⟩
 ·rcases hs t with e | e
  ·rw[e];trivial
  ·have:=R.slots t
   rw[e]at this
   exact RelAV.pull (r:=r) hzz (fun _=>rfl) ht hw this
 ·exact hinj i j oi oj hi hj (R.heap.sep _ _ _ _ b (hh i oi hi) (hh j oj hj) (Obk_ren.2 bi) (Obk_ren.2 bj))
 ·show gsame (C.g0 (.ext j)) (g (r (.ext j)))
  rw[hext]
  exact R.ext j
 ·obtain⟨N,hN,e⟩:=hbig n hn
  show g (r (.loc n))=undef
  rw[e]
  exact (R.free N hN).1
def fstOf:List (Nat×Nat)→Nat→Option Nat
 | [],_=>none
 | (a,b)::l,k=>match Nat.beq a k with
  | true=>some b
  | false=>fstOf l k
def sndOf:List (Nat×Nat)→Nat→Option Nat
 | [],_=>none
 | (a,b)::l,k=>match Nat.beq b k with
  | true=>some a
  | false=>sndOf l k
def invF (l:List (Nat×Nat)):Id→Id
 | .ext j=>.ext j
 | .loc k=>match fstOf l k with
  | some m=>.loc m
  | none=>.loc k
def backF (l:List (Nat×Nat)):Id→Id
 | .ext j=>.ext j
 | .loc k=>match sndOf l k with
  | some m=>.loc m
  | none=>.loc k
def okId (l:List (Nat×Nat)) (n:Nat) (i:Id):Bool:=
 match Id.beq (backF l (invF l i)) i with
 | true=>idB n (invF l i)
 | false=>false
def renS (l:List (Nat×Nat)):List (Nat×AV)→List (Nat×AV)
 | []=>[]
 | (t,x)::r=>(t,x.ren (invF l))::renS l r
def renH (l:List (Nat×Nat)):List (Id×AObj)→List (Id×AObj)
 | []=>[]
 | (i,x)::r=>(invF l i,x.ren (invF l))::renH l r
def keepR (ks:List Nat) (is:List Id) (n:Nat) (l:List (Nat×Nat)) (σ:St) (K:St→Prop):Prop:=
 match keepH σ.heap is with
 | none=>False
 | some hp=>req (allB (fun x:Nat×AV=>avP (okId l n) x.2) (keepS σ.slots ks))<| req (allB (fun x:Id×AObj=>match okId l n x.1 with | true=>objP (okId l n) x.2 | false=>false) hp)<|
   K ⟨renS l (keepS σ.slots ks),renH l hp,n⟩
theorem renS_get {l:List (Nat×Nat)}{s:List (Nat×AV)}(t:Nat):getS (renS l s) t=(getS s t).ren (invF l):=by
 induction s with
 | nil=>rfl
 | cons x s ih=>
  obtain⟨k,v⟩:=x
  show getS ((k,v.ren (invF l))::renS l s) t=_
  rw[getS_cons,getS_cons]
  simp only[]
  split
  ·rfl
  ·exact ih
theorem renH_get {l:List (Nat×Nat)}{p:Id→Bool}{f:Id→Id}(hp:∀i,p i=true→f (invF l i)=i):∀{s:List (Id×AObj)},(∀x∈s,p x.1=true)→∀{i:Id}{o:AObj},getH (renH l s) i=some o→p (f i)=true∧invF l (f i)=i∧∃o',getH s (f i)=some o'∧o=o'.ren (invF l)
 | [],_,i,o,h=>by simp[renH,getH]at h
 | (k,v)::s,hs,i,o,h=>by
  have hk:=hs (k,v) (by simp)
  rw[show renH l ((k,v)::s)=(invF l k,v.ren (invF l))::renH l s from rfl,getH_cons]at h
  simp only[updO]at h
  by_cases e:i=invF l k
  ·rw[if_pos e]at h
   simp at h
   have hf:f i=k:=by rw[e];exact hp k hk
   rw[hf]
   exact⟨hk,e.symm,v,by rw[getH_cons];simp[updO],h.symm⟩
  ·rw[if_neg e]at h
   obtain⟨h1,h2,o',h3,h4⟩:=renH_get hp (fun x hx=>hs x (List.mem_cons_of_mem _ hx)) h
   refine⟨h1,h2,o',?_,h4⟩
   rw[getH_cons]
   simp only[updO]
   rw[if_neg]
   ·exact h3
   ·rintro rfl
    exact e h2.symm
theorem getH_all {q:Id×AObj→Bool}{l:List (Id×AObj)}(h:allB q l=true) {i:Id}{o:AObj}(hi:getH l i=some o):q (i,o)=true:=by
 induction l with
 | nil=>simp[getH]at hi
 | cons x l ih=>
  obtain⟨k,v⟩:=x
  rw[allB_iff]at h
  rw[getH_cons]at hi
  simp only[updO]at hi
  split at hi
  ·rename_i e
   cases hi
   rw[e]
   exact h _ (List.mem_cons_self ..)
  ·exact ih (allB_iff.2 fun x hx=>h x (by simp[hx])) hi
theorem keepR_weak {ks:List Nat}{is:List Id}{n:Nat}{l:List (Nat×Nat)}{σ:St}{K:St→Prop}(h:keepR ks is n l σ K):∃σ',Weak σ σ'∧K σ':=by
 unfold keepR at h
 split at h
 ·exact h.elim
 ·rename_i hp hhp
  obtain⟨h1,h⟩:=req_iff.1 h
  obtain⟨h2,h⟩:=req_iff.1 h
  let N:=max σ.next n
  let f:Id→Id:=fun i=>if idB n i=true then backF l i else .loc N
  have hpf:∀i,okId l n i=true→f (invF l i)=i:=by
   intro i hi
   unfold okId at hi
   split at hi
   ·rename_i hb
    show (if idB n (invF l i)=true then _ else _)=i
    rw[if_pos hi]
    exact Id.beq_iff.1 hb
   ·cases hi
  have hk2:∀x∈hp,okId l n x.1=true∧objP (okId l n) x.2=true:=by
   intro x hx
   have:=allB_iff.1 h2 x hx
   split at this
   ·rename_i hb;exact⟨hb,this⟩
   ·cases this
  have hnew:∀i o,getH (renH l hp) i=some o→okId l n (f i)=true∧invF l (f i)=i∧∃o',getH hp (f i)=some o'∧o=o'.ren (invF l):=fun i o hi=>renH_get hpf (fun x hx=>(hk2 x hx).1) hi
  refine⟨_,weak_ren f (fun j=>by show (if idB n (.ext j)=true then _ else _)=_;simp[idB,backF]) (fun m hm=>⟨N,Nat.le_max_left _ _,?_⟩) (fun t=>?_) (fun i o hi=>?_) (fun i j o o' hi hj e=>?_) (fun m hm=>?_),h⟩
  ·have hm:n≤m:=hm
   have:idB n (.loc m)=false:=by
    cases hb:idB n (.loc m)with
    | false=>rfl
    | true=>simp[idB]at hb;omega
   show (if idB n (.loc m)=true then _ else _)=_
   rw[this];rfl
  ·rw[renS_get]
   rcases keepS_get (l:=σ.slots) (ks:=ks) t with e | e
   ·rw[e];exact .inl rfl
   ·right
    rw[←e]
    exact (ren_av hpf (getS_all (p:=avP (okId l n)) rfl h1 t)).symm
  ·obtain⟨p1,p2,o',p3,rfl⟩:=hnew i o hi
   have hq:=getH_all (q:=fun x=>objP (okId l n) x.2) (allB_iff.2 fun x hx=>(hk2 x hx).2) p3
   rw[ren_obj hpf hq]
   exact (keepH_get hhp _ _ p3).1
  ·obtain⟨_,p2,_⟩:=hnew i o hi
   obtain⟨_,q2,_⟩:=hnew j o' hj
   rw[←p2,←q2,e]
  ·cases hc:getH (renH l hp) (.loc m)with
   | none=>rfl
   | some o=>
    obtain⟨p1,p2,_⟩:=hnew _ o hc
    have hm:n≤m:=hm
    unfold okId at p1
    split at p1
    ·rw[p2]at p1
     simp[idB]at p1
     omega
    ·cases p1
end Go.AM
namespace Go.AM
open Go Go.RowKit
section
variable {α β γ:Type}
end
section
variable {γ:Type}
def letB (b:Bool) (k:Bool→Option γ):Option γ:=k b
def strF (L:List D) (k:ByteArray→Option γ):Option γ:=
 match bytesD L with
 | some ns=>k (bytesB ns)
 | none=>none
theorem strF_inv {L:List D}{k:ByteArray→Option γ}{r:γ}(h:strF L k=some r):∃ns s,bytesD L=some ns∧bytesB ns=s∧k s=some r:=by
 unfold strF at h
 split at h
 ·rename_i ns hn
  exact⟨ns,_,hn,rfl,h⟩
 ·cases h
def findF (e:Bool) (key:D) (rows:List D) (k1:D→Option γ) (k0:Option γ):Option γ:=
 match findR e key rows with
 | some (some y)=>k1 y
 | some none=>k0
 | none=>none
theorem findF_inv {e:Bool}{key:D}{rows:List D}{k1:D→Option γ}{k0:Option γ}{r:γ}(h:findF e key rows k1 k0=some r):(∃y,findR e key rows=some (some y)∧k1 y=some r)∨(findR e key rows=some none∧k0=some r):=by
 unfold findF at h
 split at h
 ·rename_i y hy
  exact .inl ⟨y,hy,h⟩
 ·rename_i hy
  exact .inr ⟨hy,h⟩
 ·cases h
def putF (key:D) (ws rows:List D) (k:List D→Option γ):Option γ:=
 match putR key ws rows with
 | some r=>k r
 | none=>none
theorem putF_inv {key:D}{ws rows:List D}{k:List D→Option γ}{r:γ}(h:putF key ws rows k=some r):∃out,putR key ws rows=some out∧k out=some r:=by
 unfold putF at h
 split at h
 ·rename_i out ho
  exact⟨out,ho,h⟩
 ·cases h
end
theorem seq_go {M:Mach}{ea eb:St→(AExit→St→Prop)→Prop}{σ:St}{K:AExit→St→Prop}(h:ea σ fun e σ'=>match e with
  | .normal=>eb σ' K
  | .exit id=>K (.exit id) σ'
  | .ret=>K .ret σ'):M.lock fun _=>seqP ea eb σ K:=(M.lock_iff _).2 (.inl h)
theorem seq_join {M:Mach}{ea eb:St→(AExit→St→Prop)→Prop}{σ:St}{K:AExit→St→Prop}{T:Type}(S:T→St) (I:T→Prop)
  (ha:ea σ fun e σ'=>match e with
   | .normal=>∃σ'',Weak σ' σ''∧∃t,I t∧σ''=S t
   | .exit id=>K (.exit id) σ'
   | .ret=>K .ret σ') (hb:∀t,I t→eb (S t) K):M.lock fun _=>seqP ea eb σ K:=by
 refine (M.lock_iff _).2 (.inr ⟨fun σ=>∃t,I t∧σ=S t,ha,?_⟩)
 rintro σ2 ⟨t,hi,rfl⟩
 exact hb t hi
theorem join_next {T:Type}{I:T→Prop}{S:T→St}{σ2:St}(t':T) (ks:List Nat) (is:List Id) (nx:Nat) (hI:I t') (hk:keep ks is nx σ2 (·=S t')):
  ∃σ'',Weak σ2 σ''∧∃t,I t∧σ''=S t:=by
 obtain⟨σ',hw,e⟩:=keep_weak hk
 exact⟨σ',hw,t',hI,e⟩
section
variable {M:Mach}{P:Program}{I:Inv}
end
end Go.AM
namespace Go.AM
open Go
def slB (d:Nat) (b:Bool) (l:List (Nat×AV)):List Nat→List (Nat×AV)
 | []=>[]
 | k::r=>(match Nat.beq k d with
  | true=>(k,.v (.d (.bool b)))
  | false=>(k,getS l k))::slB d b l r
def hpB (h:List (Id×AObj)):List Id→List (Id×AObj)
 | []=>[]
 | i::r=>(match getH h i with
  | some o=>(i,o)::hpB h r
  | none=>hpB h r)
def stB (d:Nat) (ks:List Nat) (is:List Id) (nx:Nat) (σ:St) (b:Bool):St:=⟨slB d b σ.slots ks,hpB σ.heap is,nx⟩
theorem seq_joinB {M:Mach}{ea eb:St→(AExit→St→Prop)→Prop}{σ:St}{K:AExit→St→Prop}(d:Nat) (ks:List Nat) (is:List Id) (nx:Nat) (I:Nat→Bool→Prop)
  (ha:ea σ fun e σ'=>match e with
   | .normal=>∃σ'',Weak σ' σ''∧∃t:Nat×Bool,I t.1 t.2∧σ''=stB d ks is nx σ t.2
   | .exit id=>K (.exit id) σ'
   | .ret=>K .ret σ') (hb:∀t:Nat×Bool,I t.1 t.2→eb (stB d ks is nx σ t.2) K):M.lock fun _=>seqP ea eb σ K:=
 seq_join (fun t:Nat×Bool=>stB d ks is nx σ t.2) (fun t=>I t.1 t.2) ha hb
end Go.AM
namespace Go.AM
open Go Go.RowKit
theorem goes_marks {P:Program}{fn:Func}{tmps:Array Value}{R:Ending→World→Prop}:∀(ds:List Nat) (w:World) (fr:Frame) (cs:List Frame),fr.mode= .returning→fr.defers=ds.map markOf→fr.tmps=tmps→
  P.funcs[fr.fn]?=some fn→LeavesInM Fence.wide 0 P fn tmps R (ds.map markOf) .returning w→
  ∃v w' fr',R (.returned v) w'∧StepsIn (Machine.fenced P Fence.wide) P (lone fr cs w) (lone fr' cs w')∧fr'.kind=fr.kind∧fr'.fn=fr.fn∧fr'.going P w' (.returned v)
 | [],w,fr,cs,hm,hd,ht,hf,h=>by
  obtain⟨v,hr,hR⟩:=h
  exact⟨v,w,fr,hR,.refl _,rfl,rfl,hm,hd,fn,hf,ht▸hr⟩
 | r::ds,w,fr,cs,hm,hd,ht,hf,h=>by
  obtain⟨hrun,⟨r',w1,htar,htake,hrest⟩ | ⟨_,fv,cap,f,args,htar,_⟩⟩:=h
  ·have h1:=step_collected (P:=P) (cs:=cs) (w:=w) (hm▸hrun) hd htar htake
   have i1:(lone fr cs w).fenced P Fence.wide:=fenced_out (n:=0) trivial (room_wide _) (hm▸hrun) hd (fun g hg=>by rw[htar]at hg;simp[Target.leads]at hg)
   obtain⟨v,w',fr',hR,hs,hk,hfn,hg⟩:=goes_marks ds w1 {fr with defers:=[]++ds.map markOf} cs hm rfl ht hf hrest
   exact⟨v,w',fr',hR,StepsIn.trans (.one i1 h1) hs,hk,hfn,hg⟩
  ·cases htar
theorem callsDIn_marks {P:Program}{f:FuncId}{fn:Func}{c:Code}{args:Array Value}{u:FrameMode}{w:World}{R:Ending→World→Prop}
  (hf:P.funcs[f]?=some fn) (hb:fn.body=some c)
  (h:c.wpIn Fence.wide 0 P (fun e a' w'=>match e with
   | .normal=>(∃ds:List Nat,a'.defers=ds.map markOf)∧LeavesInM Fence.wide 0 P fn a'.tmps R a'.defers .returning w'
   | .ret=>(∃ds:List Nat,a'.defers=ds.map markOf)∧LeavesInM Fence.wide 0 P fn a'.tmps R a'.defers .returning w'
   | _=>False) {tmps:=args++Array.replicate (fn.ntmps - args.size) undef,defers:=[]} w):CallsDIn Fence.wide 0 P f args u w fun e u' w'=>u'=u∧R e w':=by
 refine⟨trivial,fun c₀ cs hu hr=>?_⟩
 let b:Frame:={(default:Frame)with fn:=f,kind:=.deferred,roundOf:=none}
 have henter:Frame.enter P f args .deferred=
   b.atR {tmps:=args++Array.replicate (fn.ntmps - args.size) undef,defers:=[]} [.code c]:=by
  simp[Frame.enter,Frame.atR,hf,hb,b]
 have hc:({c₀ with mode:=u}:Frame)=c₀:=by subst hu;rfl
 obtain⟨e,a',w',hq,harr⟩:=h b [] (c₀::cs) rfl trivial hr
 rw[←henter]at harr
 cases e with
 | normal=>
  obtain⟨⟨ds,hds⟩,hq⟩:=hq
  rw[hds]at hq
  obtain⟨v,w2,fr',hR,hs,hk,hfn,hg⟩:=goes_marks (P:=P) (fn:=fn) ds w' {b.atR a' []with mode:=.returning} (c₀::cs) rfl hds rfl hf hq
  refine⟨.returned v,u,w2,fr',⟨rfl,hR⟩,?_,hk,hfn,hg⟩
  rw[hc]
  exact StepsIn.trans (StepsIn.trans harr (.one (fenced_calm (fr:=b.atR a' []) trivial hr rfl) (stepR_end rfl))) hs
 | ret=>
  obtain⟨⟨ds,hds⟩,hq⟩:=hq
  obtain⟨todo,hs0⟩:=harr.1 rfl
  rw[hds]at hq
  obtain⟨v,w2,fr',hR,hs,hk,hfn,hg⟩:=goes_marks (P:=P) (fn:=fn) ds w' {b.atR a' todo with mode:=.returning} (c₀::cs) rfl hds rfl hf hq
  refine⟨.returned v,u,w2,fr',⟨rfl,hR⟩,?_,hk,hfn,hg⟩
  rw[hc]
  exact StepsIn.trans hs0 hs
 | exit id=>exact hq.elim
 | goto l=>exact hq.elim
 | panic ch=>exact hq.elim
 | outgrown=>exact hq.elim
def TripD (P:Program) (I:Inv) (f:FuncId) (args:List V1) (pre:List AObj) (Q:AV→List AObj→List AObj→Prop):Prop:=
 (∃fn c,P.funcs[f]?=some fn∧fn.body=some c∧(fn.name== "runtime.NumGoroutine")=false)∧
 ∀w X g (vals:Array Value),(∀b o,X b o→b<w.heap.size)→I.at w (zor (zone g (heapOf pre)) X)→RelH w X g (heapOf pre)→(∀n,g (.loc n)=undef)→vals.size=args.length→
  (∀(j:Nat) x v,args[j]?=some x→vals[j]?=some v→RelV1 w (zor (zone g (heapOf pre)) X) g (heapOf pre) x v)→
  CallsDIn Fence.wide 0 P f vals .returning w fun e u' w'=>u'= .returning∧∃v g' res post new,Q res post new∧e= .returned v∧CallPost w X g pre res post new v w' g'
theorem TripD.intro {P:Program}{I:Inv}{ti:Types}(dr:Mach→Nat→Draw) (hti:TIok P ti) (h1:TIone ti) (hdr:∀C:Cx,C.P=P→DrawOK C (dr C.M C.nt)) {f:FuncId}{fn:Func}{c:Code}(hf:P.funcs[f]?=some fn) (hb:fn.body=some c)
  (hname:(fn.name== "runtime.NumGoroutine")=false) {args:List V1} {pre:List AObj} {Q:AV→List AObj→List AObj→Prop} (hargs:args.length≤fn.ntmps)
  (hx:∀M:Mach,M.P=P→M.I=I→exec M ti fn.ntmps (dr M fn.ntmps) c ⟨slotsOf args 0,extsOf pre 0,0⟩ fun e σ=>match e with
   | .exit _=>False
   | .normal=>∃res post new,Q res post new∧Fin' ti fn.results.toList σ res post new
   | .ret=>∃res post new,Q res post new∧Fin' ti fn.results.toList σ res post new):TripD P I f args pre Q:=
 ⟨⟨fn,c,hf,hb,hname⟩,fun w X g vals hX hI RH hg hsz hargs'=>callsDIn_marks hf hb (TripK.body dr hti h1 hdr hf hb hname hargs hx w X g vals hX hI RH hg hsz hargs')⟩
def LvRows (M:Mach) (ti:Types) (rs:List ResultVar) (Q:AV→List AObj→List AObj→Prop) (f:Nat) (cs:List FC):List D→St→Prop
 | [],σ=>∃σ1,Weak σ σ1∧∃res post new,Q res post new∧Fin' ti rs σ1 res post new
 | r::rows,σ=>∃σ1,Weak σ σ1∧getS σ1.slots DT= .df f cs (r::rows)∧∃(m:List Id) (targs:List V1) (pre:List AObj) (Qd:AV→List AObj→List AObj→Prop),TripD M.P M.I f targs pre Qd∧(fill cs r.cells).map capV=targs.map (V1.ren (renM m σ1.next))∧m.length=pre.length∧m.Nodup∧
   preAt (getH σ1.heap) (renM m σ1.next) m pre∧∀res post new,Qd res post new→(allKinds pre post∧new.length≤31)∧
    LvRows M ti rs Q f cs rows ⟨(DT,.df f cs rows)::σ1.slots,setW σ1.heap (wrM m (renM m σ1.next) post++wrNew σ1.next (renM m σ1.next) 0 new),σ1.next+32⟩
theorem LvRows.weak {M:Mach}{ti:Types}{rs:List ResultVar}{Q:AV→List AObj→List AObj→Prop}{f:Nat}{cs:List FC}:∀{rows:List D}{σ σ':St},Weak σ σ'→LvRows M ti rs Q f cs rows σ'→LvRows M ti rs Q f cs rows σ
 | [],σ,σ',hw,h=>by
  obtain⟨σ1,h1,h⟩:=h
  exact⟨σ1,Weak.trans hw h1,h⟩
 | r::rows,σ,σ',hw,h=>by
  obtain⟨σ1,h1,h⟩:=h
  exact⟨σ1,Weak.trans hw h1,h⟩
theorem leave_sound {P:Program}{I:Inv}{ti:Types}{fn:Func}{Q:AV→List AObj→List AObj→Prop}{f:Nat}{cs:List FC}{w:World}{X:Zone}{g:Ghost}{pre:List AObj}{C:Cx}(hti:TIok P ti) (h1:TIone ti) (hMP:C.M.P=P) (hMc:C.M.cl=true)
  (hw0:Frame' (zone g (heapOf pre)) w C.w0) (hX:∀b o,X b o→C.X b o) (hZ:∀b o,C.Z0 b o→zone g (heapOf pre) b o∨w.heap.size≤b) (hg:∀j,gsame (g (.ext j)) (C.g0 (.ext j))):∀(rows:List D) (σ:St) (a:Act) (w1:World) (tmps:Array Value),
  LvRows C.M ti fn.results.toList Q f cs rows σ→getS σ.slots DT= .df f cs rows→a.tmps=tmps→RelSt C σ a w1→
  LeavesInM Fence.wide 0 P fn tmps (fun e w'=>∃v g' res post new,Q res post new∧e= .returned v∧CallPost w X g pre res post new v w' g') a.defers .returning w1
 | [],σ0,a,w1,tmps,hk,hdt,ht,R0=>by
  obtain⟨g0,R0⟩:=R0
  have hd:=R0.defers
  rw[hMc]at hd
  have hd0:=(hd f cs [] hdt).1
  have hd1:a.defers=[]:=by simpa using hd0
  rw[hd1]
  obtain⟨σ1,hwk0,res,post,new,hQ,gs,hfin⟩:=hk
  obtain⟨σ,hweak,hfin⟩:=gh_weak hfin
  obtain⟨g1,R1⟩:=hweak _ _ _ (hwk0 _ _ _ ⟨g0,R0⟩)
  have hP:C.P=P:=hMP
  have hti2:TIok C.P ti:=by rw[hP];exact hti
  obtain⟨xs,vs,⟨nm,hnd,hres,hpost,hnewo,hhand⟩,hrun,hlen,hrel⟩:=withRes_sound (C:=C) hti2 h1 R1 _ _ hfin
  obtain⟨f1,f2,f3,f4⟩:=finish (X:=X) R1 hX (nodupB_iff.1 hnd) hpost hnewo hhand
  have hrr:=results_run (C:=C) hrun
  rw[hP,ht]at hrr
  refine⟨_,hrr,_,fun i=>g1 (renN nm σ.next i),res,post,new,hQ,rfl,⟨f1,?_,?_,fun j=>(hg j).trans (R1.ext j),fun i ob b o hi hb=>?_,f3⟩⟩
  ·refine f4 res _ ?_
   rw[←hres]
   have other:xs.length≠1→RelAV w1 (zor (zone g1 (getH σ.heap)) C.X) g1 (getH σ.heap) (.t xs) (.tuple vs.toArray):=fun _=>
    ⟨vs.toArray,rfl,by simpa using hlen,fun j x v hx hv=>hrel j x v hx (by simpa using hv)⟩
   match xs,vs,hlen,hrel,other with
   | [x],[v],_,hrel,_=>exact hrel 0 x v rfl rfl
   | [],[],_,_,other=>exact other (by simp)
   | x::y::xs,v::u::vs,hl,_,other=>
    have:¬(v::u::vs).toArray.size=1:=by simp
    simp only[dif_neg this]
    exact other (by simp)
  ·refine hw0.then (R1.frame) (fun b o hz=>hZ b o hz)
  ·obtain⟨j,ob',hj,hz⟩:=f2 i ob b o hi hb
   rcases R1.within j ob' b o hj hz with hz | hz
   ·exact hZ b o hz
   ·exact .inr (Nat.le_trans hw0.size hz)
 | r::rows,σ0,a,w1,tmps,hk,hdt,ht,R0=>by
  obtain⟨σ,hwk,hdt,m,targs,pre',Qd,htrip,hargs,hlen,hnd,hpre,hK⟩:=hk
  obtain⟨g1,R1⟩:=hwk _ _ _ R0
  have hcl:C.M.cl=true:=hMc
  have hd:=R1.defers
  rw[hcl]at hd
  obtain⟨hl,hds⟩:=hd f cs (r::rows) hdt
  cases hda:a.defers with
  | nil=>rw[hda]at hl;simp at hl
  | cons d ds=>
   rw[hda]at hl hds
   obtain⟨ps,rfl,hclo⟩:=hds 0 r d rfl rfl
   obtain⟨hpsz,hcap⟩:=capV_rel (h:=getH σ.heap) hclo
   have hP:C.P=P:=hMP
   obtain⟨⟨fnd,body,hfn,hb,hname⟩,htrip⟩:=htrip
   rw[show C.M.P=P from hP]at hfn htrip
   have hn':¬fnd.name= "runtime.NumGoroutine" :=by simpa using hname
   refine⟨by simp,.inr ⟨(fun h=>by cases h),.func f,ps,f,ps,rfl,?_,fun _ _=>trivial,?_⟩⟩
   ·simp[invoke,callFunc,hfn,hb,hn']
   have core:=call_core (C:=C) (Qp:=Qd) (Run:=fun p=>CallsDIn Fence.wide 0 P f ps .returning w1 fun e u' w'=>u'= .returning∧p e w') (vals:=ps) (dst:=none) (Q:=fun _ _ _=>False) (a:=a) R1 (fun hpq hp=>CallsDIn.mono hp fun e u' w' q=>⟨q.1,hpq _ _ q.2⟩)
    (fun X' g' _ k1 k2 k3 k4 k6=>htrip w1 X' g' ps k1 k2 k3 k4 (by have:=congrArg List.length hargs;simp at this;omega) k6) hlen hnd hpre (fun r p q h=>(hK r p q h).1) (fun k _=>by show σ.next≤_;omega) (fun d hd=>by cases hd) (targs:=targs) (by rw[←hargs];exact hcap)
   refine CallsDIn.mono core ?_
   rintro e u' w2 ⟨rfl,he⟩
   cases e with
   | panicked ch=>exact he.elim
   | outgrown=>exact absurd he (by simp[LetsOut])
   | returned v=>
    obtain⟨res,post,new,hq,g2,_,R2⟩:=he
    have hlv:=(hK res post new hq).2
    have R3:RelSt C ⟨(DT,.df f cs rows)::σ.slots,setW σ.heap (wrM m (renM m σ.next) post++wrNew σ.next (renM m σ.next) 0 new),σ.next+32⟩ {tmps:=a.tmps,defers:=ds} w2:=by
     refine⟨g2,?_⟩
     have hdf:=R2.defers
     rw[hcl]at hdf
     obtain⟨q1,q2⟩:=hdf f cs (r::rows) (by simpa [updS] using hdt)
     have hda':(a.put none v).defers=⟨.fn (.func f) ps,#[]⟩::ds:=hda
     rw[hda']at q1 q2
     rw[getH_setW]
     refine {R2.free_mono (F':=fun n=>σ.next+32≤n) (fun n hn=>⟨by omega,by omega⟩)with size:=R2.size,defers:=?_,slots:=fun t=>?_}
     ·rw[hcl]
      intro f' cs' rows' e
      rw[getS_cons]at e
      simp only[updS]at e
      cases e
      exact⟨by simpa using q1,fun k y d hy hd=>q2 (k+1) y d (by simpa using hy) (by simpa using hd)⟩
     ·rw[getS_cons]
      simp only[updS]
      split
      ·trivial
      ·exact R2.slots t
    have:=leave_sound (P:=P) (I:=I) (fn:=fn) hti h1 hMP hMc hw0 hX hZ hg rows _ {tmps:=a.tmps,defers:=ds} w2 tmps hlv (by rw[getS_cons];simp[updS]) ht R3
    exact this
theorem TripK.introD {P:Program}{I:Inv}{ti:Types}(dr:Mach→Nat→Draw) (hti:TIok P ti) (h1:TIone ti) (hdr:∀C:Cx,C.P=P→DrawOK C (dr C.M C.nt)) {f:FuncId}{fn:Func}{c:Code}(hf:P.funcs[f]?=some fn) (hb:fn.body=some c)
  (hname:(fn.name== "runtime.NumGoroutine")=false) {args:List V1} {pre:List AObj} {Q:AV→List AObj→List AObj→Prop} (hargs:args.length≤fn.ntmps) (hnt:fn.ntmps≤DT) (hnr:noRange c=true) (fd:Nat) (cs:List FC)
  (hx:∀M:Mach,M.P=P→M.I=I→M.cl=true→exec M ti fn.ntmps (dr M fn.ntmps) c ⟨(DT,.df fd cs [])::slotsOf args 0,extsOf pre 0,0⟩ fun e σ=>match e with
   | .exit _=>False
   | .normal=>∃rows,LvRows M ti fn.results.toList Q fd cs rows σ∧getS σ.slots DT= .df fd cs rows
   | .ret=>∃rows,LvRows M ti fn.results.toList Q fd cs rows σ∧getS σ.slots DT= .df fd cs rows):TripK P I f args pre Q:=by
 refine⟨⟨fn,c,hf,hb,hname⟩,fun w X g vals hX hI RH hg hsz hargs'=>?_⟩
 let C:Cx:={M:=Mach.of P I true,nt:=fn.ntmps,w0:=w,Z0:=zone g (heapOf pre),X:=X,g0:=g,hinv:=hI,ro:=none,D:=[],hro:=fun l hl=>(by cases hl),hD:=fun r hr=>(by cases hr),hDn:=List.nodup_nil,hcl:=fun _=>⟨hnt,rfl⟩}
 have R0:RelSt C ⟨(DT,.df fd cs [])::slotsOf args 0,extsOf pre 0,0⟩ {tmps:=vals++Array.replicate (fn.ntmps - vals.size) undef,defers:=[]} w:=by
  refine relS_start (P:=P) (by simp[C];omega) ?_ (fun t=>?_) RH rfl rfl (fun _ _ h=>h) hX hg
  ·show DefOK _ _ _ true _ _ _
   rw[getS_cons]
   simp only[if_pos]
   intro f' cs' rows' e
   cases e
   exact⟨rfl,fun k r d hr=>by simp at hr⟩
  ·rw[getS_cons]
   simp only[]
   split
   ·trivial
   rcases slotsOf_get args 0 t with h | ⟨x,_,h2,h3⟩
   ·rw[h];trivial
   ·rw[h3]
    simp only[Nat.sub_zero]at h2
    have hlt:t<vals.size:=by rw[hsz];exact (List.getElem?_eq_some_iff.1 h2).1
    have:(vals++Array.replicate (fn.ntmps - vals.size) undef).getD t undef=vals[t]:=by
     simp[Array.getElem?_append,hlt]
    show RelV1 w _ g _ x ((vals++Array.replicate (fn.ntmps - vals.size) undef).getD t undef)
    rw[this]
    exact hargs' t x _ h2 (by simp[hlt])
 refine callsIn_wide.1 (callsIn_of_wp_marks (n:=0) hf hb trivial (wpIn_mono (exec_sound (M:=Mach.of P I true) (ro:=none) hti h1 (fun C hC hn=>by
  have:=hdr C (by show C.M.P=P;rw[hC];rfl)
  rw[hC,hn]at this
  exact this) c _ _ C _ w rfl rfl rfl (fun _=>hnr) (hx (Mach.of P I true) rfl rfl rfl) R0) ?_))
 have fin:∀(C':Cx) (σ:St) (a':Act) (w':World),CxLe C C'→(∃rows,LvRows (Mach.of P I true) ti fn.results.toList Q fd cs rows σ∧getS σ.slots DT= .df fd cs rows)→RelSt C' σ a' w'→
   LeavesInM Fence.wide 0 P fn a'.tmps (fun e w'=>∃v g' res post new,Q res post new∧e= .returned v∧CallPost w X g pre res post new v w' g') a'.defers .returning w':=by
  rintro C' σ a' w' hle ⟨rows,hlv,hdt⟩ R
  exact leave_sound (P:=P) (I:=I) hti h1 (by rw[hle.M];rfl) (by rw[hle.M];rfl) hle.frame (fun b o hx=>hle.X b o hx) hle.Z0 hle.ext rows σ a' w' _ (by rw[hle.M];exact hlv) hdt rfl R
 intro e a' w' hq
 cases e with
 | normal=>obtain⟨C',hle,σ,hf',hr⟩:=hq;exact fin C' σ a' w' hle hf' hr
 | ret=>obtain⟨C',hle,σ,hf',hr⟩:=hq;exact fin C' σ a' w' hle hf' hr
 | exit id=>obtain⟨C',hle,σ,hf',hr⟩:=hq;exact hf'.elim
 | goto l=>exact hq.elim
 | panic ch=>obtain⟨C',hle,v0,s,h,nx,hpn,_⟩:=hq;rw[hle.M]at hpn;exact hpn.elim
 | outgrown=>exact hq.elim
theorem LvRows.loop {M:Mach}{ti:Types}{rs:List ResultVar}{Q:AV→List AObj→List AObj→Prop}{f:Nat}{cs:List FC}{T:Type}(S:List D→T→St) (I:List D→T→Prop)
  (step:∀r rows t,I (r::rows) t→∃σ1,Weak (S (r::rows) t) σ1∧getS σ1.slots DT= .df f cs (r::rows)∧∃(m:List Id) (targs:List V1) (pre:List AObj) (Qd:AV→List AObj→List AObj→Prop),TripD M.P M.I f targs pre Qd∧(fill cs r.cells).map capV=targs.map (V1.ren (renM m σ1.next))∧m.length=pre.length∧m.Nodup∧
   preAt (getH σ1.heap) (renM m σ1.next) m pre∧∀res post new,Qd res post new→(allKinds pre post∧new.length≤31)∧
    ∃t',Weak ⟨(DT,.df f cs rows)::σ1.slots,setW σ1.heap (wrM m (renM m σ1.next) post++wrNew σ1.next (renM m σ1.next) 0 new),σ1.next+32⟩ (S rows t')∧I rows t')
  (fin:∀t,I [] t→∃res post new,Q res post new∧Fin' ti rs (S [] t) res post new):∀rows t,I rows t→LvRows M ti rs Q f cs rows (S rows t)
 | [],t,hi=>⟨_,Weak.refl _,fin t hi⟩
 | r::rows,t,hi=>by
  obtain⟨σ1,h1,h2,m,targs,pre,Qd,h3,h4,h5,h6,h7,h8⟩:=step r rows t hi
  refine⟨σ1,h1,h2,m,targs,pre,Qd,h3,h4,h5,h6,h7,fun res post new hq=>⟨(h8 res post new hq).1,?_⟩⟩
  obtain⟨t',hw,hi'⟩:=(h8 res post new hq).2
  exact LvRows.weak hw (LvRows.loop S I step fin rows t' hi')
end Go.AM
namespace Go.AM
open Go Go.RowKit
theorem TripD.of {P:Program}{I:Inv}{ti:Types}(hti:TIok P ti) (h1:TIone ti) (hm:P.follows .mixedOrders=true) {f:FuncId}{fn:Func}{c:Code}(hf:P.funcs[f]?=some fn) (hb:fn.body=some c)
  (hname:(fn.name== "runtime.NumGoroutine")=false) {args:List V1} {pre post new:List AObj} {res:AV} {nt:Nat} (hnt:fn.ntmps=nt) (hargs:Nat.ble args.length nt=true) {rs:List ResultVar} (hrs:fn.results.toList=rs)
  (hx:∀M:Mach,M.P=P→M.I=I→exec M ti nt (execDraw ti M nt) c ⟨slotsOf args 0,extsOf pre 0,0⟩ fun e σ=>match e with
   | .exit _=>False
   | .normal=>∃r p n,(r=res∧p=post∧n=new)∧Fin' ti rs σ r p n
   | .ret=>∃r p n,(r=res∧p=post∧n=new)∧Fin' ti rs σ r p n):TripD P I f args pre (fun r p n=>r=res∧p=post∧n=new):=by
 subst hnt
 subst hrs
 exact TripD.intro (fun M nt=>execDraw ti M nt) hti h1 (draw_P hti h1 hm) hf hb hname (Nat.le_of_ble_eq_true hargs) hx
theorem TripD.at {P:Program}{I:Inv}{M:Mach}{f:FuncId}{args:List V1}{pre:List AObj}{Q:AV→List AObj→List AObj→Prop}(hP:M.P=P) (hI:M.I=I) (h:TripD P I f args pre Q):TripD M.P M.I f args pre Q:=by rw[hP,hI];exact h
end Go.AM
namespace Go.Proofs.YtaomkgkdfafiiaaGreatDoor
open Go Go.AM
theorem fol:Tryz.prog.follows .mixedOrders=true:=by kernel_rfl
def inv:Inv:=Inv.none
end Go.Proofs.YtaomkgkdfafiiaaGreatDoor
set_option maxRecDepth 100000
set_option maxHeartbeats 40000000
set_option linter.unusedVariables false
noncomputable section
namespace Go.Proofs.YtaomkgkdfafiiaaGreatDoor
open Go Go.AM
def L28_1:Nat→(List D)→Bool→Option (List D)
 | 0,_,_=>none
 | n+1,l1,b2=>
  (if b2=true then some ([]:List D)else appF 8 [] l1 fun l3=>some l3)
def F28 (n:Nat) (l1:List D):Option (List D):=
 (nilF l1 (L28_1 n l1 true) (L28_1 n l1 false))
theorem T28 (n:Nat):∀⦃l1:List D⦄ ⦃r1:List D⦄,F28 n l1=some r1→
    Trip Tryz.prog inv 28 [.d (.list false 1 l1)] [] (.v (.d (.list false 1 r1))) [] []:=by
 intro l1 r1 h
 unfold F28 at h
 refine Trip.of tab_ok tab_one fol Tryz.func28 rfl (by kernel_rfl) rfl rfl rfl (fun M hM hI=>?_)
 try cbv
 refine seq_go ?_
 try cbv
 refine seq_go ?_
 try cbv
 refine seq_join (T:=Nat×Bool) (fun t=>⟨[(0,.v (.d (.list false 1 l1))),(2,.v (.c (.nils false 1))),(4,.v (.d (.bool t.2)))],[],96⟩) (fun t=>t.1≤n∧L28_1 t.1 l1 t.2=some r1) ?_ ?_
 ·try cbv
  replace h:=nilF_inv h
  obtain⟨h,hA⟩:=h
  refine nil_both ?_ (fun e=>?_)
  ·clear hA
   try cbv
   exact join_next (n,false) [0,2,4] [] 96 ⟨by omega,h⟩ (by cbv)
  replace h:=hA e
  clear hA
  try cbv
  exact join_next (n,true) [0,2,4] [] 96 ⟨by omega,h⟩ (by cbv)
 clear h
 rintro⟨m1,b2⟩ ⟨hm1,h⟩
 replace hm1:m1≤n:=hm1
 obtain _ | m1:=m1
 ·replace h:L28_1 0 l1 b2=some r1:=h
  rw[L28_1]at h
  cases h
 replace h:L28_1 (m1+1) l1 b2=some r1:=h
 rw[L28_1]at h
 try cbv
 cases b2
 ·replace h:=ite_f Bool.false_ne_true h
  try cbv
  refine seq_go ?_
  try cbv
  refine⟨false,?_⟩
  try cbv
  refine⟨true,?_⟩
  try cbv
  replace h:=appF_inv h
  obtain⟨l3,hb,hz,h⟩:=h
  refine⟨false,?_⟩
  try cbv
  refine⟨(M.lock_iff _).2 hb,l3,hz,false,?_⟩
  clear hb hz
  try cbv
  obtain rfl:=Option.some.inj h
  refine fin_go ?_
  try cbv
  exact⟨[],rfl,rfl,trivial,trivial,trivial⟩
 replace h:=ite_t rfl h
 try cbv
 refine seq_go ?_
 try cbv
 obtain rfl:=Option.some.inj h
 refine fin_go ?_
 try cbv
 exact⟨[],rfl,rfl,trivial,trivial,trivial⟩
def L126_1:Nat→(List D)→Bool→Option (List D)
 | 0,_,_=>none
 | n+1,l1,b2=>
  (if b2=true then some ([]:List D)else appF 88 [] l1 fun l3=>some l3)
def F126 (n:Nat) (l1:List D):Option (List D):=
 (nilF l1 (L126_1 n l1 true) (L126_1 n l1 false))
theorem T126 (n:Nat):∀⦃l1:List D⦄ ⦃r1:List D⦄,F126 n l1=some r1→
    Trip Tryz.prog inv 126 [.d (.list true 6 l1)] [] (.v (.d (.list true 6 r1))) [] []:=by
 intro l1 r1 h
 unfold F126 at h
 refine Trip.of tab_ok tab_one fol Tryz.func126 rfl (by kernel_rfl) rfl rfl rfl (fun M hM hI=>?_)
 try cbv
 refine seq_go ?_
 try cbv
 refine seq_go ?_
 try cbv
 refine seq_join (T:=Nat×Bool) (fun t=>⟨[(0,.v (.d (.list true 6 l1))),(2,.v (.c (.nils true 6))),(4,.v (.d (.bool t.2)))],[],96⟩) (fun t=>t.1≤n∧L126_1 t.1 l1 t.2=some r1) ?_ ?_
 ·try cbv
  replace h:=nilF_inv h
  obtain⟨h,hA⟩:=h
  refine nil_both ?_ (fun e=>?_)
  ·clear hA
   try cbv
   exact join_next (n,false) [0,2,4] [] 96 ⟨by omega,h⟩ (by cbv)
  replace h:=hA e
  clear hA
  try cbv
  exact join_next (n,true) [0,2,4] [] 96 ⟨by omega,h⟩ (by cbv)
 clear h
 rintro⟨m1,b2⟩ ⟨hm1,h⟩
 replace hm1:m1≤n:=hm1
 obtain _ | m1:=m1
 ·replace h:L126_1 0 l1 b2=some r1:=h
  rw[L126_1]at h
  cases h
 replace h:L126_1 (m1+1) l1 b2=some r1:=h
 rw[L126_1]at h
 try cbv
 cases b2
 ·replace h:=ite_f Bool.false_ne_true h
  try cbv
  refine seq_go ?_
  try cbv
  refine⟨false,?_⟩
  try cbv
  refine⟨true,?_⟩
  try cbv
  replace h:=appF_inv h
  obtain⟨l3,hb,hz,h⟩:=h
  refine⟨false,?_⟩
  try cbv
  refine⟨(M.lock_iff _).2 hb,l3,hz,false,?_⟩
  clear hb hz
  try cbv
  obtain rfl:=Option.some.inj h
  refine fin_go ?_
  try cbv
  exact⟨[],rfl,rfl,trivial,trivial,trivial⟩
 replace h:=ite_t rfl h
 try cbv
 refine seq_go ?_
 try cbv
 obtain rfl:=Option.some.inj h
 refine fin_go ?_
 try cbv
 exact⟨[],rfl,rfl,trivial,trivial,trivial⟩
def L195_1:Nat→(List D)→Bool→Option (List D)
 | 0,_,_=>none
 | n+1,l1,b2=>
  (if b2=true then some ([]:List D)else appF 16 [] l1 fun l3=>some l3)
def F195 (n:Nat) (l1:List D):Option (List D):=
 (nilF l1 (L195_1 n l1 true) (L195_1 n l1 false))
theorem T195 (n:Nat):∀⦃l1:List D⦄ ⦃r1:List D⦄,F195 n l1=some r1→
    Trip Tryz.prog inv 195 [.d (.list false 1 l1)] [] (.v (.d (.list false 1 r1))) [] []:=by
 intro l1 r1 h
 unfold F195 at h
 refine Trip.of tab_ok tab_one fol Tryz.func195 rfl (by kernel_rfl) rfl rfl rfl (fun M hM hI=>?_)
 try cbv
 refine seq_go ?_
 try cbv
 refine seq_go ?_
 try cbv
 refine seq_join (T:=Nat×Bool) (fun t=>⟨[(0,.v (.d (.list false 1 l1))),(2,.v (.c (.nils false 1))),(4,.v (.d (.bool t.2)))],[],96⟩) (fun t=>t.1≤n∧L195_1 t.1 l1 t.2=some r1) ?_ ?_
 ·try cbv
  replace h:=nilF_inv h
  obtain⟨h,hA⟩:=h
  refine nil_both ?_ (fun e=>?_)
  ·clear hA
   try cbv
   exact join_next (n,false) [0,2,4] [] 96 ⟨by omega,h⟩ (by cbv)
  replace h:=hA e
  clear hA
  try cbv
  exact join_next (n,true) [0,2,4] [] 96 ⟨by omega,h⟩ (by cbv)
 clear h
 rintro⟨m1,b2⟩ ⟨hm1,h⟩
 replace hm1:m1≤n:=hm1
 obtain _ | m1:=m1
 ·replace h:L195_1 0 l1 b2=some r1:=h
  rw[L195_1]at h
  cases h
 replace h:L195_1 (m1+1) l1 b2=some r1:=h
 rw[L195_1]at h
 try cbv
 cases b2
 ·replace h:=ite_f Bool.false_ne_true h
  try cbv
  refine seq_go ?_
  try cbv
  refine⟨false,?_⟩
  try cbv
  refine⟨true,?_⟩
  try cbv
  replace h:=appF_inv h
  obtain⟨l3,hb,hz,h⟩:=h
  refine⟨false,?_⟩
  try cbv
  refine⟨(M.lock_iff _).2 hb,l3,hz,false,?_⟩
  clear hb hz
  try cbv
  obtain rfl:=Option.some.inj h
  refine fin_go ?_
  try cbv
  exact⟨[],rfl,rfl,trivial,trivial,trivial⟩
 replace h:=ite_t rfl h
 try cbv
 refine seq_go ?_
 try cbv
 obtain rfl:=Option.some.inj h
 refine fin_go ?_
 try cbv
 exact⟨[],rfl,rfl,trivial,trivial,trivial⟩
def L196_1:Nat→(List D)→Bool→Option (List D)
 | 0,_,_=>none
 | n+1,l1,b2=>
  (if b2=true then some ([]:List D)else appF 64 [] l1 fun l3=>some l3)
def F196 (n:Nat) (l1:List D):Option (List D):=
 (nilF l1 (L196_1 n l1 true) (L196_1 n l1 false))
theorem T196 (n:Nat):∀⦃l1:List D⦄ ⦃r1:List D⦄,F196 n l1=some r1→
    Trip Tryz.prog inv 196 [.d (.list true 4 l1)] [] (.v (.d (.list true 4 r1))) [] []:=by
 intro l1 r1 h
 unfold F196 at h
 refine Trip.of tab_ok tab_one fol Tryz.func196 rfl (by kernel_rfl) rfl rfl rfl (fun M hM hI=>?_)
 try cbv
 refine seq_go ?_
 try cbv
 refine seq_go ?_
 try cbv
 refine seq_join (T:=Nat×Bool) (fun t=>⟨[(0,.v (.d (.list true 4 l1))),(2,.v (.c (.nils true 4))),(4,.v (.d (.bool t.2)))],[],96⟩) (fun t=>t.1≤n∧L196_1 t.1 l1 t.2=some r1) ?_ ?_
 ·try cbv
  replace h:=nilF_inv h
  obtain⟨h,hA⟩:=h
  refine nil_both ?_ (fun e=>?_)
  ·clear hA
   try cbv
   exact join_next (n,false) [0,2,4] [] 96 ⟨by omega,h⟩ (by cbv)
  replace h:=hA e
  clear hA
  try cbv
  exact join_next (n,true) [0,2,4] [] 96 ⟨by omega,h⟩ (by cbv)
 clear h
 rintro⟨m1,b2⟩ ⟨hm1,h⟩
 replace hm1:m1≤n:=hm1
 obtain _ | m1:=m1
 ·replace h:L196_1 0 l1 b2=some r1:=h
  rw[L196_1]at h
  cases h
 replace h:L196_1 (m1+1) l1 b2=some r1:=h
 rw[L196_1]at h
 try cbv
 cases b2
 ·replace h:=ite_f Bool.false_ne_true h
  try cbv
  refine seq_go ?_
  try cbv
  refine⟨false,?_⟩
  try cbv
  refine⟨true,?_⟩
  try cbv
  replace h:=appF_inv h
  obtain⟨l3,hb,hz,h⟩:=h
  refine⟨false,?_⟩
  try cbv
  refine⟨(M.lock_iff _).2 hb,l3,hz,false,?_⟩
  clear hb hz
  try cbv
  obtain rfl:=Option.some.inj h
  refine fin_go ?_
  try cbv
  exact⟨[],rfl,rfl,trivial,trivial,trivial⟩
 replace h:=ite_t rfl h
 try cbv
 refine seq_go ?_
 try cbv
 obtain rfl:=Option.some.inj h
 refine fin_go ?_
 try cbv
 exact⟨[],rfl,rfl,trivial,trivial,trivial⟩
end Go.Proofs.YtaomkgkdfafiiaaGreatDoor
end
namespace Go.AM
open Go Go.RowKit
theorem Trip.ofCalls {P:Program}{I:Inv}{f:FuncId}{xs:List D}{res:V1}(hf:∃fn c,P.funcs[f]?=some fn∧fn.body=some c∧(fn.name== "runtime.NumGoroutine")=false)
  (h:∀(w:World) (Z:Zone) (vals:Array Value),I.rel w→vals.size=xs.length→(∀(j:Nat) x v,xs[j]?=some x→vals[j]?=some v→RelD w Z x v)→
   Calls P f vals w fun e w'=>∃v,e= .returned v∧ApartW (fun _=>False) w w'∧∀Z' g' h',RelV1 w' Z' g' h' res v):Trip P I f (xs.map V1.d) [] (.v res) [] []:=by
 refine Trip.mk' hf fun w X g vals hX hI RH hg hsz hargs=>?_
 have none:∀{i o},heapOf [] i=some o→False:=by
  intro i o h
  cases i<;>simp[heapOf]at h
 have none2:∀{i o},heapOf2 [] [] i=some o→False:=by
  intro i o h
  cases i<;>simp[heapOf2]at h
 refine (h w (zor (zone g (heapOf [])) X) vals hI.1 (by simpa using hsz) (fun j x v hx hv=>hargs j (.d x) v (by simp[hx]) hv)).mono ?_
 rintro e w' ⟨v,rfl,A,hr⟩
 refine⟨v,g,rfl,⟨⟨fun i o hi=>(none2 hi).elim,fun i j oi oj b hi=>(none2 hi).elim,fun i oi b o hi=>(none2 hi).elim⟩,hr _ _ _,?_,fun j=>.refl _,fun i ob b o hi=>(none2 hi).elim,fun k _=>hg k⟩⟩
 exact⟨A.os,A.tape,A.output,A.size,fun b hb _=>A.block b hb id,fun b o u hu _=>A.cell hu id⟩
end Go.AM
