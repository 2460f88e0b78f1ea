/- MachineNil. No condition. (Part 8.) -/
import Derived.Test.YtaomkgkdfafiiaaGreatDoorNilG
set_option linter.unusedVariables false
set_option linter.unusedSimpArgs false
noncomputable section
namespace Go.Proofs.YtaomkgkdfafiiaaGreatDoor
open Go Go.AM
noncomputable def rowsc:List D:=[(.agg [(.int .u8 (3)),(.int .i64 (1)),(.int .i64 (0)),(.int .i64 (0)),(.list false 1 []),(.list false 1 []),(.int .i64 (1)),(.str ⟨#[]⟩),(.list false 1 [])]),(.agg [(.int .u8 (3)),(.int .i64 (1)),(.int .i64 (0)),(.int .i64 (0)),(.list false 1 []),(.list false 1 []),(.int .i64 (0)),(.str ⟨#[]⟩),(.list false 1 [])]),(.agg [(.int .u8 (10)),(.int .i64 (12)),(.int .i64 (0)),(.int .i64 (0)),(.list false 1 []),(.list false 1 []),(.int .i64 (0)),(.str ⟨#[]⟩),(.list false 1 [])])]
noncomputable def retc:Ret:=⟨(.v (.c (.ptr (.loc 15) 0))),[],[(.tree .flat true 4 [(.agg [(.int .u8 (9)),(.int .i64 (0)),(.int .i64 (0)),(.list false 1 [])])] .none),(.cells [(.d (.list false 1 [])),(.d (.int .u8 (2))),(.d (.bool true)),(.d (.int .u8 (0))),(.d (.int .i64 (0))),(.d (.str ⟨#[]⟩)),(.nils true 6),(.d (.int .i64 (0))),(.nils false 1)]),(.cells [(.ptr (.loc 1) 0)]),(.tree .row false 1 [] .none),(.tree .row true 4 [(.agg [(.int .i64 (-1)),(.bool false),(.bool false),(.list false 1 [])])] (.some (0,[(.d (.int .i64 (-1))),(.d (.bool true)),(.d (.bool true)),(.ow (.loc 3))]))),(.cells [(.ow (.loc 4))]),(.pmap 0 1 0 [] .none),(.cells [(.ow (.loc 6))]),(.tree (.fmap true) true 3 [] .none),(.cells [(.ow (.loc 8))]),(.map 194 3 []),(.cells [(.map (.loc 10))]),(.tree (.fmap true) true 8 [] .none),(.cells [(.ow (.loc 12)),(.d (.int .i64 (0)))]),(.tree .flat true 4 [(.agg [(.str ⟨#[109,97,105,110]⟩),(.int .i64 (0)),(.int .i64 (3)),(.list true 9 [(.agg [(.int .u8 (3)),(.int .i64 (1)),(.int .i64 (0)),(.int .i64 (0)),(.list false 1 []),(.list false 1 []),(.int .i64 (1)),(.str ⟨#[]⟩),(.list false 1 [])]),(.agg [(.int .u8 (3)),(.int .i64 (1)),(.int .i64 (0)),(.int .i64 (0)),(.list false 1 []),(.list false 1 []),(.int .i64 (0)),(.str ⟨#[]⟩),(.list false 1 [])]),(.agg [(.int .u8 (10)),(.int .i64 (12)),(.int .i64 (0)),(.int .i64 (0)),(.list false 1 []),(.list false 1 []),(.int .i64 (0)),(.str ⟨#[]⟩),(.list false 1 [])])])])] .none),(.cells [(.ow (.loc 14)),(.d (.int .i64 (0))),(.nils true 16),(.ptr (.loc 13) 0),(.ptr (.loc 11) 0),(.ptr (.loc 9) 0),(.ptr (.loc 7) 0),(.ptr (.loc 5) 0),(.sl (.loc 2) 1),(.ow (.loc 0)),(.d (.int .u8 (0))),(.d (.int .i64 (0)))])]⟩
set_option maxRecDepth 1000000 in
theorem run_c:runZ W7 tab 30 30 [.d (.list true 9 rowsc)] []=some (.ret retc):=by kernel_rfl
theorem trip_c:Trip Tryz.prog inv 30 [.d (.list true 9 rowsc)] [] retc.res retc.post retc.new:=runZ_ok tab_ok tab_one fol W7_ok 30 30 _ _ _ run_c
end Go.Proofs.YtaomkgkdfafiiaaGreatDoor
end
