/- QueuesRoom, QueuesRound, QueuesOrder, QueuesApart of chapter 23 hold. No condition. (Part 5: YtiiojajgajnhpaaQ10, QoR, AmR, YtiiojajgajnhpaaQ11, QoN, QoRm, QoRd, YtiiojajgajnhpaaQ8, QoD, QoRo, YtiiojajgajnhpaaQ9, QoE, QoRa.) -/
import Derived.Carry
import Derived.ChangeSame
import Derived.ChangeOld
import Derived.ChangeCalls
import Derived.WideShapes
import Derived.Test.YtiiojajgajnhpaaRows
import Derived.JoinedOf
import Derived.JoinedAt
import Derived.RowKit
import Derived.RowKit2
import Derived.ReadAgain
import Derived.ChangeAlike
import Derived.Test.YtiiojajgajnhpaaQueD
set_option linter.unusedVariables false
set_option linter.unusedSimpArgs false
set_option maxRecDepth 100000
set_option maxHeartbeats 40000000
set_option linter.unusedVariables false
noncomputable section
namespace Go.Proofs.Ytiiojajgajnhpaa
open Go Go.AM
mutual
def L10_7:Nat→Int→Int→(List PRow)→(List D)→Int→Option (Bool)
 | 0,_,_,_,_,_=>none
 | n+1,z9,z10,pm22,l23,z24=>
  lenF l23 fun z25=>(if z24<z25 then L10_8 n z9 z10 pm22 l23 z24 true else L10_8 n z9 z10 pm22 l23 z24 false)
def L10_8:Nat→Int→Int→(List PRow)→(List D)→Int→Bool→Option (Bool)
 | 0,_,_,_,_,_,_=>none
 | n+1,z9,z10,pm22,l23,z24,b26=>
  (if b26=true then needF (0≤z24∧z24.toNat<l23.length) (getN l23 (z24.toNat) fun x27=>ds_t49 x27 fun z28 z29 s30 l31 z32 l33=>(if z29=z24 then L10_9 n z9 z10 pm22 l23 z24 false else L10_9 n z9 z10 pm22 l23 z24 true))else (if z10=z9 then lenF l23 fun z36=>(if z36=z9 then bO2 (F40 n (3:Int) pm22) fun b37 pm38=>(if b37=true then bO2 (F41 n (3:Int) pm38) fun b39 pm40=>some b39 else some false)else some false)else some false))
def L10_9:Nat→Int→Int→(List PRow)→(List D)→Int→Bool→Option (Bool)
 | 0,_,_,_,_,_,_=>none
 | n+1,z9,z10,pm22,l23,z24,b34=>
  (if b34=true then some false else letF (IntKind.wrap .i64 (z24+1)) fun z35=>L10_7 n z9 z10 pm22 l23 z35)
end
def L10_6:Nat→Int→Int→(List PRow)→(List D)→Option (Bool)
 | 0,_,_,_,_=>none
 | n+1,z9,z10,pm22,l23=>
  L10_7 n z9 z10 pm22 l23 (0:Int)
mutual
def L10_4:Nat→Int→Int→(List PRow)→Option (Bool)
 | 0,_,_,_=>none
 | n+1,z9,z10,pm11=>
  bO1 (F49 n z10) fun z12=>bO2 (F39 n (3:Int) (1:Int) z12 ByteArray.empty ([]:List D) (0:Int) ([]:List D) pm11) fun b13 pm14=>(if b13=true then letF (IntKind.wrap .i64 (z10+1)) fun z15=>(if (100:Int)<z15 then L10_5 n z9 pm14 z15 true else L10_5 n z9 pm14 z15 false)else bS (F42 n (3:Int) pm14) (fun p20=>bO2 (some p20) fun pm17 l18=>L10_6 n z9 z10 pm17 l18) (fun pm19=>L10_6 n z9 z10 pm19 ([]:List D)))
def L10_5:Nat→Int→(List PRow)→Int→Bool→Option (Bool)
 | 0,_,_,_,_=>none
 | n+1,z9,pm14,z15,b16=>
  (if b16=true then some false else L10_4 n z9 z15 pm14)
end
def L10_3:Nat→(List PRow)→Int→Option (Bool)
 | 0,_,_=>none
 | n+1,pm6,z9=>
  L10_4 n z9 (0:Int) pm6
def L10_2:Nat→Int→(List PRow)→Bool→Option (Bool)
 | 0,_,_,_=>none
 | n+1,z2,pm6,b8=>
  (if b8=true then L10_3 n pm6 z2 else L10_3 n pm6 (0:Int))
def L10_1:Nat→Int→Int→(List PRow)→Bool→Option (Bool)
 | 0,_,_,_,_=>none
 | n+1,z1,z2,pm6,b7=>
  (if b7=true then L10_3 n pm6 z1 else (if (1:Int)≤z2 then (if z2≤(8:Int)then L10_2 n z2 pm6 true else L10_2 n z2 pm6 false)else L10_2 n z2 pm6 false))
def F10 (n:Nat) (z1:Int) (z2:Int):Option (Bool):=
 bO1 (F47 n) fun b3=>letB (!b3) fun b4=>(if b4=true then some false else bO0 (F43 n) (bO1 (F37 n (3:Int) z1 ([]:List PRow)) fun pm5=>bO1 (F37 n (3:Int) z2 pm5) fun pm6=>(if (1:Int)≤z1 then (if z1≤(8:Int)then L10_1 n z1 z2 pm6 true else L10_1 n z1 z2 pm6 false)else L10_1 n z1 z2 pm6 false)))
theorem T10 (n:Nat):∀⦃z1:Int⦄ ⦃z2:Int⦄ ⦃r1:Bool⦄,F10 n z1 z2=some r1→
    Trip Try.prog inv 10 [.d (.int .i64 z1),.d (.int .i64 z2)] [] (.v (.d (.bool r1))) [] []:=by
 intro z1 z2 r1 h
 unfold F10 at h
 refine Trip.of tab_ok tab_one fol Try.func10 rfl (by kernel_rfl) rfl rfl rfl (fun M hM hI=>?_)
 try cbv
 refine seq_go ?_
 try cbv
 refine seq_go ?_
 try cbv
 refine seq_go ?_
 try cbv
 replace h:=bO1_inv h
 obtain⟨b3,hr,h⟩:=h
 refine call_go rfl rfl ?_
 try cbv
 refine call_pure hM hI (T47 _ hr) rfl ?_
 clear hr
 try cbv
 replace h:=letB_inv h
 obtain⟨b4,hz,h⟩:=h
 refine⟨b4,not_eq' hz,?_⟩
 clear hz
 try cbv
 cases b4
 rotate_left
 ·replace h:=ite_t rfl h
  try cbv
  refine seq_go ?_
  try cbv
  obtain rfl:=Option.some.inj h
  refine fin_go ?_
  try cbv
  exact⟨[],rfl,rfl,trivial,trivial,trivial⟩
 replace h:=ite_f Bool.false_ne_true h
 try cbv
 refine seq_go ?_
 try cbv
 replace h:=bO0_inv h
 obtain⟨hr,h⟩:=h
 refine call_go rfl rfl ?_
 try cbv
 refine call_with hM hI [] (T43 _ hr) rfl (by simp) trivial trivial (by simp) ?_
 clear hr
 try cbv
 refine seq_go ?_
 try cbv
 replace h:=bO1_inv h
 obtain⟨pm5,hr,h⟩:=h
 refine call_go rfl rfl ?_
 try cbv
 refine call_with hM hI [.loc 96,.loc 97] (T37 _ hr) rfl (by simp) ⟨rfl,⟨rfl,trivial⟩⟩ ⟨trivial,⟨trivial,trivial⟩⟩ (by simp) ?_
 clear hr
 try cbv
 refine seq_go ?_
 try cbv
 replace h:=bO1_inv h
 obtain⟨pm6,hr,h⟩:=h
 refine call_go rfl rfl ?_
 try cbv
 refine call_with hM hI [.loc 96,.loc 97] (T37 _ hr) rfl (by simp) ⟨rfl,⟨rfl,trivial⟩⟩ ⟨trivial,⟨trivial,trivial⟩⟩ (by simp) ?_
 clear hr
 try cbv
 refine seq_go ?_
 try cbv
 refine seq_join (T:=Nat×Int) (fun t=>⟨[(4,.v (.d (.bool false))),(5,.v (.c (.ptr (.loc 96) 0))),(6,.v (.d (.int .i64 t.2)))],[(.loc 96,.cells [.ow (.loc 97)]),(.loc 97,.pmap 3 6 8 pm6 none)],832⟩) (fun t=>t.1≤n∧L10_3 t.1 pm6 t.2=some r1) ?_ ?_
 ·try cbv
  refine seq_join (T:=Nat×Bool) (fun t=>⟨[(0,.v (.d (.int .i64 z1))),(1,.v (.d (.int .i64 z2))),(4,.v (.d (.bool false))),(5,.v (.c (.ptr (.loc 96) 0))),(6,.v (.d (.int .i64 0))),(24,.v (.d (.bool t.2)))],[(.loc 96,.cells [.ow (.loc 97)]),(.loc 97,.pmap 3 6 8 pm6 none)],576⟩) (fun t=>t.1≤n∧L10_1 t.1 z1 z2 pm6 t.2=some r1) ?_ ?_
  ·try cbv
   refine splitLe (fun e=>?_) (fun e=>?_)
   ·replace h:=ite_t e h
    clear e
    try cbv
    refine splitLe (fun e=>?_) (fun e=>?_)
    ·replace h:=ite_t e h
     clear e
     try cbv
     exact join_next (n,true) [0,1,4,5,6,24] [.loc 96,.loc 97] 576 ⟨by omega,h⟩ (by cbv)
    replace h:=ite_f (Int.not_le.2 e) h
    clear e
    try cbv
    exact join_next (n,false) [0,1,4,5,6,24] [.loc 96,.loc 97] 576 ⟨by omega,h⟩ (by cbv)
   replace h:=ite_f (Int.not_le.2 e) h
   clear e
   try cbv
   exact join_next (n,false) [0,1,4,5,6,24] [.loc 96,.loc 97] 576 ⟨by omega,h⟩ (by cbv)
  clear h
  rintro⟨m1,b7⟩ ⟨hm1,h⟩
  replace hm1:m1≤n:=hm1
  obtain _ | m1:=m1
  ·replace h:L10_1 0 z1 z2 pm6 b7=some r1:=h
   rw[L10_1]at h
   cases h
  replace h:L10_1 (m1+1) z1 z2 pm6 b7=some r1:=h
  rw[L10_1]at h
  try cbv
  cases b7
  rotate_left
  ·replace h:=ite_t rfl h
   try cbv
   exact join_next (m1,z1) [4,5,6] [.loc 96,.loc 97] 832 ⟨by omega,h⟩ (by cbv)
  replace h:=ite_f Bool.false_ne_true h
  try cbv
  refine seq_join (T:=Nat×Bool) (fun t=>⟨[(1,.v (.d (.int .i64 z2))),(4,.v (.d (.bool false))),(5,.v (.c (.ptr (.loc 96) 0))),(6,.v (.d (.int .i64 0))),(31,.v (.d (.bool t.2)))],[(.loc 96,.cells [.ow (.loc 97)]),(.loc 97,.pmap 3 6 8 pm6 none)],768⟩) (fun t=>t.1≤m1∧L10_2 t.1 z2 pm6 t.2=some r1) ?_ ?_
  ·try cbv
   refine splitLe (fun e=>?_) (fun e=>?_)
   ·replace h:=ite_t e h
    clear e
    try cbv
    refine splitLe (fun e=>?_) (fun e=>?_)
    ·replace h:=ite_t e h
     clear e
     try cbv
     exact join_next (m1,true) [1,4,5,6,31] [.loc 96,.loc 97] 768 ⟨by omega,h⟩ (by cbv)
    replace h:=ite_f (Int.not_le.2 e) h
    clear e
    try cbv
    exact join_next (m1,false) [1,4,5,6,31] [.loc 96,.loc 97] 768 ⟨by omega,h⟩ (by cbv)
   replace h:=ite_f (Int.not_le.2 e) h
   clear e
   try cbv
   exact join_next (m1,false) [1,4,5,6,31] [.loc 96,.loc 97] 768 ⟨by omega,h⟩ (by cbv)
  clear h
  rintro⟨m2,b8⟩ ⟨hm2,h⟩
  replace hm2:m2≤m1:=hm2
  obtain _ | m2:=m2
  ·replace h:L10_2 0 z2 pm6 b8=some r1:=h
   rw[L10_2]at h
   cases h
  replace h:L10_2 (m2+1) z2 pm6 b8=some r1:=h
  rw[L10_2]at h
  try cbv
  cases b8
  ·replace h:=ite_f Bool.false_ne_true h
   try cbv
   exact join_next (m2,(0:Int)) [4,5,6] [.loc 96,.loc 97] 832 ⟨by omega,h⟩ (by cbv)
  replace h:=ite_t rfl h
  try cbv
  exact join_next (m2,z2) [4,5,6] [.loc 96,.loc 97] 832 ⟨by omega,h⟩ (by cbv)
 clear h
 rintro⟨m3,z9⟩ ⟨hm3,h⟩
 replace hm3:m3≤n:=hm3
 obtain _ | m3:=m3
 ·replace h:L10_3 0 pm6 z9=some r1:=h
  rw[L10_3]at h
  cases h
 replace h:L10_3 (m3+1) pm6 z9=some r1:=h
 rw[L10_3]at h
 try cbv
 refine seq_go ?_
 try cbv
 refine seq_go ?_
 try cbv
 refine loop_invG (T:=Nat×Int×List PRow) [] [] [4,5,6,7] [.loc 96,.loc 97] 864 (fun t=>⟨[(4,.v (.d (.bool false))),(5,.v (.c (.ptr (.loc 96) 0))),(6,.v (.d (.int .i64 z9))),(7,.v (.d (.int .i64 t.2.1)))],[(.loc 96,.cells [.ow (.loc 97)]),(.loc 97,.pmap 3 6 8 t.2.2 none)],864⟩)
   (fun t=>t.1≤m3∧L10_4 t.1 z9 t.2.1 t.2.2=some r1) (fun t=>t.1) (m3,((0:Int),pm6)) ⟨Nat.le_refl _,h⟩ (by cbv) ?_
 clear h
 rintro⟨m4,z10,pm11⟩ ⟨hm4,h⟩
 replace hm4:m4≤m3:=hm4
 obtain _ | m4:=m4
 ·replace h:L10_4 0 z9 z10 pm11=some r1:=h
  rw[L10_4]at h
  cases h
 replace h:L10_4 (m4+1) z9 z10 pm11=some r1:=h
 rw[L10_4]at h
 try cbv
 refine seq_go ?_
 try cbv
 refine seq_go ?_
 try cbv
 replace h:=bO1_inv h
 obtain⟨z12,hr,h⟩:=h
 refine call_go rfl rfl ?_
 try cbv
 refine call_pure hM hI (T49 _ hr) rfl ?_
 clear hr
 try cbv
 replace h:=bO2_inv h
 obtain⟨b13,pm14,hr,h⟩:=h
 refine call_go rfl rfl ?_
 try cbv
 refine call_with hM hI [.loc 96,.loc 97] (T39 _ hr) rfl (by simp) ⟨rfl,⟨rfl,trivial⟩⟩ ⟨trivial,⟨trivial,trivial⟩⟩ (by simp) ?_
 clear hr
 try cbv
 cases b13
 rotate_left
 ·replace h:=ite_t rfl h
  try cbv
  refine seq_go ?_
  try cbv
  replace h:=letF_inv h
  obtain⟨z15,hz,h⟩:=h
  refine⟨z15,hz,?_⟩
  clear hz
  try cbv
  refine seq_join (T:=Nat×Bool) (fun t=>⟨[(4,.v (.d (.bool false))),(5,.v (.c (.ptr (.loc 96) 0))),(6,.v (.d (.int .i64 z9))),(7,.v (.d (.int .i64 z15))),(40,.v (.d (.bool t.2)))],[(.loc 96,.cells [.ow (.loc 97)]),(.loc 97,.pmap 3 6 8 pm14 none)],1152⟩) (fun t=>t.1≤m4∧L10_5 t.1 z9 pm14 z15 t.2=some r1) ?_ ?_
  ·try cbv
   refine splitL (fun e=>?_) (fun e=>?_)
   ·replace h:=ite_t e h
    clear e
    try cbv
    exact join_next (m4,true) [4,5,6,7,40] [.loc 96,.loc 97] 1152 ⟨by omega,h⟩ (by cbv)
   replace h:=ite_f (Int.not_lt.2 e) h
   clear e
   try cbv
   exact join_next (m4,false) [4,5,6,7,40] [.loc 96,.loc 97] 1152 ⟨by omega,h⟩ (by cbv)
  clear h
  rintro⟨m5,b16⟩ ⟨hm5,h⟩
  replace hm5:m5≤m4:=hm5
  obtain _ | m5:=m5
  ·replace h:L10_5 0 z9 pm14 z15 b16=some r1:=h
   rw[L10_5]at h
   cases h
  replace h:L10_5 (m5+1) z9 pm14 z15 b16=some r1:=h
  rw[L10_5]at h
  try cbv
  cases b16
  ·replace h:=ite_f Bool.false_ne_true h
   try cbv
   refine loop_nextG (m5,(z15,pm14)) [] [] [4,5,6,7] [.loc 96,.loc 97] 864 ⟨by omega,h⟩ (Nat.lt_succ_of_le (by omega)) ?_
   try cbv
  replace h:=ite_t rfl h
  try cbv
  refine seq_go ?_
  try cbv
  obtain rfl:=Option.some.inj h
  refine fin_go ?_
  try cbv
  exact⟨[],rfl,rfl,trivial,trivial,trivial⟩
 replace h:=ite_f Bool.false_ne_true h
 try cbv
 refine seq_join (T:=Nat×(List PRow)×List D) (fun t=>⟨[(4,.v (.d (.bool false))),(5,.v (.c (.ptr (.loc 96) 0))),(6,.v (.d (.int .i64 z9))),(7,.v (.d (.int .i64 z10))),(8,.v (.c (.ow (.loc 1024))))],[(.loc 96,.cells [.ow (.loc 97)]),(.loc 97,.pmap 3 6 8 t.2.1 none),(.loc 1024,.tree .flat true 6 t.2.2 none)],1088⟩) (fun t=>t.1≤m4∧L10_6 t.1 z9 z10 t.2.1 t.2.2=some r1) ?_ ?_
 ·try cbv
  replace h:=bS_inv h
  rcases h with⟨p20,hr,h⟩ | ⟨pm19,hr,h⟩
  ·replace h:=bO2_inv h
   obtain⟨pm17,l18,hp,h⟩:=h
   obtain rfl:=Option.some.inj hp
   clear hp
   refine call_go rfl rfl ?_
   try cbv
   refine call_with hM hI [.loc 96,.loc 97] (T42 _ hr (fun r p n=>r= .v (.c (.ow (.loc 0)))∧p=[.cells [.ow (.ext 1)],.pmap 3 6 8 pm17 none]∧n=[.tree .flat true 6 l18 none]) ⟨rfl,rfl,rfl⟩:Trip _ _ _ _ _ (.v (.c (.ow (.loc 0)))) [.cells [.ow (.ext 1)],.pmap 3 6 8 pm17 none] [.tree .flat true 6 l18 none]) rfl (by simp) ⟨rfl,⟨rfl,trivial⟩⟩ ⟨trivial,⟨trivial,trivial⟩⟩ (by simp) ?_
   clear hr
   try cbv
   exact join_next (m4,(pm17,l18)) [4,5,6,7,8] [.loc 96,.loc 97,.loc 1024] 1088 ⟨by omega,h⟩ (by cbv)
  refine call_go rfl rfl ?_
  try cbv
  refine call_with hM hI [.loc 96,.loc 97] (T42 _ hr (fun r p n=>r= .v (.c (.ow (.loc 0)))∧p=[.cells [.ow (.ext 1)],.pmap 3 6 8 pm19 none]∧n=[.tree .row true 6 [] none]) ⟨rfl,rfl,rfl⟩:Trip _ _ _ _ _ (.v (.c (.ow (.loc 0)))) [.cells [.ow (.ext 1)],.pmap 3 6 8 pm19 none] [.tree .row true 6 [] none]) rfl (by simp) ⟨rfl,⟨rfl,trivial⟩⟩ ⟨trivial,⟨trivial,trivial⟩⟩ (by simp) ?_
  clear hr
  try cbv
  refine join_nextG (m4,(pm19,([]:List D))) [.flatten (.loc 1024)] [] [4,5,6,7,8] [.loc 96,.loc 97,.loc 1024] 1088 ⟨by omega,h⟩ ?_
  try cbv
  first | done | exact rfl | cbv
 clear h
 rintro⟨m6,pm22,l23⟩ ⟨hm6,h⟩
 replace hm6:m6≤m4:=hm6
 obtain _ | m6:=m6
 ·replace h:L10_6 0 z9 z10 pm22 l23=some r1:=h
  rw[L10_6]at h
  cases h
 replace h:L10_6 (m6+1) z9 z10 pm22 l23=some r1:=h
 rw[L10_6]at h
 try cbv
 refine seq_go ?_
 try cbv
 refine seq_go ?_
 try cbv
 refine loop_invG (T:=Nat×Int) [] [] [4,5,6,7,8,9] [.loc 96,.loc 97,.loc 1024] 1120 (fun t=>⟨[(4,.v (.d (.bool false))),(5,.v (.c (.ptr (.loc 96) 0))),(6,.v (.d (.int .i64 z9))),(7,.v (.d (.int .i64 z10))),(8,.v (.c (.ow (.loc 1024)))),(9,.v (.d (.int .i64 t.2)))],[(.loc 96,.cells [.ow (.loc 97)]),(.loc 97,.pmap 3 6 8 pm22 none),(.loc 1024,.tree .flat true 6 l23 none)],1120⟩)
   (fun t=>t.1≤m6∧L10_7 t.1 z9 z10 pm22 l23 t.2=some r1) (fun t=>t.1) (m6,(0:Int)) ⟨Nat.le_refl _,h⟩ (by cbv) ?_
 clear h
 rintro⟨m7,z24⟩ ⟨hm7,h⟩
 replace hm7:m7≤m6:=hm7
 obtain _ | m7:=m7
 ·replace h:L10_7 0 z9 z10 pm22 l23 z24=some r1:=h
  rw[L10_7]at h
  cases h
 replace h:L10_7 (m7+1) z9 z10 pm22 l23 z24=some r1:=h
 rw[L10_7]at h
 try cbv
 refine seq_go ?_
 try cbv
 refine seq_join (T:=Nat×Bool) (fun t=>⟨[(4,.v (.d (.bool false))),(5,.v (.c (.ptr (.loc 96) 0))),(6,.v (.d (.int .i64 z9))),(7,.v (.d (.int .i64 z10))),(8,.v (.c (.ow (.loc 1024)))),(9,.v (.d (.int .i64 z24))),(46,.v (.d (.bool t.2)))],[(.loc 96,.cells [.ow (.loc 97)]),(.loc 97,.pmap 3 6 8 pm22 none),(.loc 1024,.tree .flat true 6 l23 none)],1248⟩) (fun t=>t.1≤m7∧L10_8 t.1 z9 z10 pm22 l23 z24 t.2=some r1) ?_ ?_
 ·try cbv
  replace h:=lenF_inv M h
  obtain⟨z25,hz,h⟩:=h
  refine⟨z25,hz,?_⟩
  clear hz
  try cbv
  refine splitL (fun e=>?_) (fun e=>?_)
  ·replace h:=ite_t e h
   clear e
   try cbv
   exact join_next (m7,true) [4,5,6,7,8,9,46] [.loc 96,.loc 97,.loc 1024] 1248 ⟨by omega,h⟩ (by cbv)
  replace h:=ite_f (Int.not_lt.2 e) h
  clear e
  try cbv
  exact join_next (m7,false) [4,5,6,7,8,9,46] [.loc 96,.loc 97,.loc 1024] 1248 ⟨by omega,h⟩ (by cbv)
 clear h
 rintro⟨m8,b26⟩ ⟨hm8,h⟩
 replace hm8:m8≤m7:=hm8
 obtain _ | m8:=m8
 ·replace h:L10_8 0 z9 z10 pm22 l23 z24 b26=some r1:=h
  rw[L10_8]at h
  cases h
 replace h:L10_8 (m8+1) z9 z10 pm22 l23 z24 b26=some r1:=h
 rw[L10_8]at h
 try cbv
 cases b26
 ·replace h:=ite_f Bool.false_ne_true h
  try cbv
  refine seq_go ?_
  try cbv
  refine splitI (fun e=>?_) (fun e=>?_)
  rotate_left
  ·replace h:=ite_f e h
   clear e
   try cbv
   obtain rfl:=Option.some.inj h
   refine fin_go ?_
   try cbv
   exact⟨[],rfl,rfl,trivial,trivial,trivial⟩
  replace h:=ite_t e h
  clear e
  try cbv
  replace h:=lenF_inv M h
  obtain⟨z36,hz,h⟩:=h
  refine⟨z36,hz,?_⟩
  clear hz
  try cbv
  refine splitI (fun e=>?_) (fun e=>?_)
  rotate_left
  ·replace h:=ite_f e h
   clear e
   try cbv
   obtain rfl:=Option.some.inj h
   refine fin_go ?_
   try cbv
   exact⟨[],rfl,rfl,trivial,trivial,trivial⟩
  replace h:=ite_t e h
  clear e
  try cbv
  replace h:=bO2_inv h
  obtain⟨b37,pm38,hr,h⟩:=h
  refine call_go rfl rfl ?_
  try cbv
  refine call_with hM hI [.loc 96,.loc 97] (T40 _ hr) rfl (by simp) ⟨rfl,⟨rfl,trivial⟩⟩ ⟨trivial,⟨trivial,trivial⟩⟩ (by simp) ?_
  clear hr
  try cbv
  cases b37
  ·replace h:=ite_f Bool.false_ne_true h
   try cbv
   obtain rfl:=Option.some.inj h
   refine fin_go ?_
   try cbv
   exact⟨[],rfl,rfl,trivial,trivial,trivial⟩
  replace h:=ite_t rfl h
  try cbv
  replace h:=bO2_inv h
  obtain⟨b39,pm40,hr,h⟩:=h
  refine call_go rfl rfl ?_
  try cbv
  refine call_with hM hI [.loc 96,.loc 97] (T41 _ hr) rfl (by simp) ⟨rfl,⟨rfl,trivial⟩⟩ ⟨trivial,⟨trivial,trivial⟩⟩ (by simp) ?_
  clear hr
  try cbv
  obtain rfl:=Option.some.inj h
  refine fin_go ?_
  try cbv
  exact⟨[],rfl,rfl,trivial,trivial,trivial⟩
 replace h:=ite_t rfl h
 try cbv
 refine seq_go ?_
 try cbv
 refine seq_join (T:=Nat×Bool) (fun t=>⟨[(4,.v (.d (.bool false))),(5,.v (.c (.ptr (.loc 96) 0))),(6,.v (.d (.int .i64 z9))),(7,.v (.d (.int .i64 z10))),(8,.v (.c (.ow (.loc 1024)))),(9,.v (.d (.int .i64 z24))),(55,.v (.d (.bool t.2)))],[(.loc 96,.cells [.ow (.loc 97)]),(.loc 97,.pmap 3 6 8 pm22 none),(.loc 1024,.tree .flat true 6 l23 none)],1472⟩) (fun t=>t.1≤m8∧L10_9 t.1 z9 z10 pm22 l23 z24 t.2=some r1) ?_ ?_
 ·try cbv
  replace h:=needF_inv h
  obtain⟨hn,h⟩:=h
  refine⟨(M.lock_iff _).2 hn,?_⟩
  clear hn
  try cbv
  replace h:=getN_inv h
  obtain⟨x27,hx,h⟩:=h
  replace h:=ds_t49_inv h
  obtain⟨z28,z29,s30,l31,z32,l33,rfl,h⟩:=h
  refine⟨_,hx,?_⟩
  clear hx
  try cbv
  refine splitI (fun e=>?_) (fun e=>?_)
  ·replace h:=ite_t e h
   clear e
   try cbv
   exact join_next (m8,false) [4,5,6,7,8,9,55] [.loc 96,.loc 97,.loc 1024] 1472 ⟨by omega,h⟩ (by cbv)
  replace h:=ite_f e h
  clear e
  try cbv
  exact join_next (m8,true) [4,5,6,7,8,9,55] [.loc 96,.loc 97,.loc 1024] 1472 ⟨by omega,h⟩ (by cbv)
 clear h
 rintro⟨m9,b34⟩ ⟨hm9,h⟩
 replace hm9:m9≤m8:=hm9
 obtain _ | m9:=m9
 ·replace h:L10_9 0 z9 z10 pm22 l23 z24 b34=some r1:=h
  rw[L10_9]at h
  cases h
 replace h:L10_9 (m9+1) z9 z10 pm22 l23 z24 b34=some r1:=h
 rw[L10_9]at h
 try cbv
 cases b34
 ·replace h:=ite_f Bool.false_ne_true h
  try cbv
  replace h:=letF_inv h
  obtain⟨z35,hz,h⟩:=h
  refine⟨z35,hz,?_⟩
  clear hz
  try cbv
  refine loop_nextG (m9,z35) [] [] [4,5,6,7,8,9] [.loc 96,.loc 97,.loc 1024] 1120 ⟨by omega,h⟩ (Nat.lt_succ_of_le (by omega)) ?_
  try cbv
 replace h:=ite_t rfl h
 try cbv
 refine seq_go ?_
 try cbv
 obtain rfl:=Option.some.inj h
 refine fin_go ?_
 try cbv
 exact⟨[],rfl,rfl,trivial,trivial,trivial⟩
end Go.Proofs.Ytiiojajgajnhpaa
end
set_option linter.unusedVariables false
noncomputable section
namespace Go.Proofs.Ytiiojajgajnhpaa
open Go Go.AM
theorem wfi {i:Int}(h1: -9223372036854775808≤i) (h2:i≤9223372036854775807):(Lit.int .i64 i).wf=true:=by
 have a:IntKind.i64.min= -9223372036854775808:=by decide
 have b:IntKind.i64.max=9223372036854775807:=by decide
 simp only[Lit.wf,Bool.and_eq_true,decide_eq_true_eq,a,b]
 exact⟨h1,h2⟩
def nums (k:Nat):List VV:=(List.range k).map fun i:Nat=>wv (i:Int)
theorem nums_get {k i:Nat}(h:i<k):((nums k).map VV.row)[i]?=some (wv (i:Int)).row:=by
 simp[nums,h]
theorem nums_len (k:Nat):(nums k).length=k:=by simp[nums]
theorem nums_succ (k:Nat):nums (k+1)=nums k++[wv (k:Int)]:=by simp[nums,List.range_succ]
def stR (W:Nat) (q:List VV):List Ch:=if W=0 then []else [⟨3,(W:Int),q⟩]
theorem room_fin {pm:List PRow}(h:QOK pm []) (k:Nat) (hk:k≤8):Ev (fun n=>L10_6 n (k:Int) (k:Int) pm ((nums k).map VV.row)) true:=by
 have hl:((nums k).map VV.row).length=k:=by simp[nums_len]
 obtain⟨p1,e1,k1⟩:=evFu h 3 (b:=true) (by simp[fullC,getC])
 obtain⟨p2,e2,k2⟩:=evEm k1 3 (b:=true) (by simp[emptyC,getC])
 have loop:∀i:Nat,i≤k→Ev (fun n=>L10_7 n (k:Int) (k:Int) pm ((nums k).map VV.row) (i:Int)) true:=by
  refine down k ?_ ?_
  ·refine .succ ?_
   simp only[L10_7,lenF,hl,Int.lt_irrefl,if_false]
   refine .succ ?_
   simp only[L10_8,Bool.false_eq_true,if_false,if_true,lenF,hl]
   refine Ev.bO2 e1 ?_
   simp only[if_true]
   exact Ev.bO2 e2 .ret
  ·intro i hi ih
   refine .succ ?_
   simp only[L10_7,lenF,hl,if_pos (ilt hi)]
   refine .succ ?_
   have h0:(0:Int)≤(i:Int)∧(i:Int).toNat<((nums k).map VV.row).length:=by rw[hl];omega
   have h1:(i:Int).toNat=i:=by omega
   simp only[L10_8,if_true,need_pos h0]
   simp only[h1,getN_some (nums_get hi),ds25,wv,if_true]
   refine .succ ?_
   simp only[L10_9,Bool.false_eq_true,if_false,letF,iw (show -9223372036854775808≤(i:Int)+1 by omega) (by omega)]
   exact ih
 refine .succ ?_
 simp only[L10_6]
 exact loop 0 (Nat.zero_le _)
theorem room_loop (W:Nat) (hW:W≤8):∀i:Nat,i≤W→∀pm,QOK pm (stR W (nums i))→Ev (fun n=>L10_4 n (W:Int) (i:Int) pm) true:=by
 refine down W ?_ ?_
 ·intro pm h
  by_cases c:W=0
  ·subst c
   have h:QOK pm []:=h
   obtain⟨p1,e1,k1⟩:=evPu h 3 (wv_VS (i:=0) rfl) (b:=false) (S':=[]) (by simp[pushC,getC])
   refine .succ ?_
   simp only[L10_4]
   refine Ev.bO1 (ev49 _) (Ev.bO2 e1 ?_)
   simp only[Bool.false_eq_true,if_false]
   exact Ev.bSr (evDropN k1 rfl) (room_fin k1 0 (by omega))
  ·simp only[stR,if_neg c]at h
   obtain⟨p1,e1,k1⟩:=evPu h 3 (wv_VS (i:=(W:Int)) (wfi (by omega) (by omega))) (b:=false) (S':=[⟨3,(W:Int),nums W⟩]) (by simp[pushC,getC,nums_len])
   obtain⟨p2,e2,k2⟩:=evDropS k1 (z:=3) (c:=⟨3,(W:Int),nums W⟩) (by simp[getC])
   rw[show delC 3 [(⟨3,(W:Int),nums W⟩:Ch)]=[]by simp[delC]]at k2
   refine .succ ?_
   simp only[L10_4]
   refine Ev.bO1 (ev49 _) (Ev.bO2 e1 ?_)
   simp only[Bool.false_eq_true,if_false]
   exact Ev.bSl e2 (room_fin k2 W hW)
 ·intro i hi ih pm h
  have c:W≠0:=by omega
  simp only[stR,if_neg c]at h ih
  obtain⟨p1,e1,k1⟩:=evPu h 3 (wv_VS (i:=(i:Int)) (wfi (by omega) (by omega))) (b:=true) (S':=[⟨3,(W:Int),nums (i+1)⟩]) (by simp[pushC,getC,updC,nums_len,nums_succ];omega)
  refine .succ ?_
  simp only[L10_4]
  refine Ev.bO1 (ev49 _) (Ev.bO2 e1 ?_)
  simp only[if_true,letF,iw (show -9223372036854775808≤(i:Int)+1 by omega) (by omega),if_neg (show ¬(100:Int)<(i:Int)+1 by omega)]
  refine .succ ?_
  simp only[L10_5,Bool.false_eq_true,if_false]
  exact ih p1 k1
theorem room_law (z1 z2:Int):Ev (fun n=>F10 n z1 z2) true:=by
 have f43:∀n,F43 n=some ():=fun n=>rfl
 obtain⟨p1,e1,k1⟩:=evMake (pm:=[]) (S:=[]) trivial 3 z1
 obtain⟨p2,e2,k2⟩:=evMake k1 3 z2
 have go:∀W:Nat,W≤8→makeC 3 z2 (makeC 3 z1 [])=stR W []→Ev (fun n=>L10_3 n p2 (W:Int)) true:=by
  intro W hW e
  refine .succ ?_
  simp only[L10_3]
  exact room_loop W hW 0 (Nat.zero_le _) p2 (by rw[e]at k2;exact k2)
 unfold F10
 refine Ev.bO1 ev_awake ?_
 simp only[letB,Bool.not_true,Bool.false_eq_true,if_false]
 refine Ev.bO0 (.of f43) (Ev.bO1 e1 (Ev.bO1 e2 ?_))
 have rest:¬(1≤z1∧z1≤8)→Ev (fun n=>L10_1 n z1 z2 p2 false) true:=by
  intro c
  have m1:makeC 3 z1 []=[]:=by simp only[makeC,getC];rw[if_pos (by omega)]
  refine .succ ?_
  simp only[L10_1,Bool.false_eq_true,if_false]
  by_cases d:1≤z2∧z2≤8
  ·simp only[if_pos d.1,if_pos d.2]
   refine .succ ?_
   simp only[L10_2,if_true]
   have:=go z2.toNat (by omega) (by rw[m1];simp only[makeC,getC,stR];rw[if_neg (by omega),if_neg (by omega)];simp;omega)
   rwa [show ((z2.toNat:Nat):Int)=z2 by omega]at this
  ·have:=go 0 (by omega) (by rw[m1];simp only[makeC,getC,stR];rw[if_pos (by omega)];rfl)
   have w:Ev (fun n=>L10_2 n z2 p2 false) true:=by
    refine .succ ?_
    simp only[L10_2,Bool.false_eq_true,if_false]
    exact this
   by_cases d1:1≤z2
   ·simp only[if_pos d1,if_neg (show ¬z2≤8 by omega)];exact w
   ·simp only[if_neg d1];exact w
 by_cases c:1≤z1∧z1≤8
 ·simp only[if_pos c.1,if_pos c.2]
  refine .succ ?_
  simp only[L10_1,if_true]
  have m1:makeC 3 z1 []=[⟨3,z1,[]⟩]:=by simp only[makeC,getC];rw[if_neg (by omega)];rfl
  have:=go z1.toNat (by omega) (by rw[m1];simp only[makeC,getC,stR,if_true];rw[if_neg (by omega)];simp;omega)
  rwa [show ((z1.toNat:Nat):Int)=z1 by omega]at this
 ·by_cases c1:1≤z1
  ·simp only[if_pos c1,if_neg (show ¬z1≤8 by omega)];exact rest c
  ·simp only[if_neg c1];exact rest c
end Go.Proofs.Ytiiojajgajnhpaa
end
namespace Go.AM
open Go Go.RowKit Go.ChangeShapes Go.WideShapes
def Shapes (ti:Types):List TypeId→List D→Prop
 | [],[]=>True
 | t::ts,x::xs=>Shape ti t x.cells∧(∀y,ti t=some y→x.isAgg=rowD y.desc)∧Shapes ti ts xs
 | _,_=>False
theorem Shapes.length {ti:Types}:∀{ts:List TypeId}{xs:List D},Shapes ti ts xs→xs.length=ts.length
 | [],[],_=>rfl
 | _::_,_::_,h=>by simp[Shapes.length h.2.2]
 | [],_::_,h=>h.elim
 | _::_,[],h=>h.elim
section
variable {H:Type}{enc:TypeId×Value→H}{P:Program}{ti:Types}{T:List TypeId}{w:World}
theorem conv_arg (hti:TIok P ti) (hT:plainB ti T=true) {Z:Zone}(hZ:∀b o,¬Z b o) {base base':Nat}{spare:Nat→Bool}{held:Bool}{r:Reach}{t:TypeId}{v:Value}{d:DataW H}{ps:List MemPlace}(ht:t∈T)
  (hok:Value.okWide P w r base' t v) (h:DataW.Trod enc P w base spare held t v d ps):∃x:D,Shape ti t x.cells∧(∀y,ti t=some y→x.isAgg=rowD y.desc)∧RelD w Z x v:=by
 obtain⟨fuel,h⟩:=h
 obtain⟨ds,hs,h1,h2,h3⟩:=conv hti hT (Z:=Z) hZ fuel t _ _ _ ht h
 have hp:=List.all_eq_true.1 hT t ht
 split at hp
 ·rename_i y hy
  have hu:=(hti t y hy).1
  have single:rowD y.desc=false→v.cells.toList=[v]→∃x:D,Shape ti t x.cells∧(∀y,ti t=some y→x.isAgg=rowD y.desc)∧RelD w Z x v:=by
   intro hr hv
   rw[hv]at h1 h3
   obtain⟨c,rfl⟩:=List.length_eq_one_iff.1 h1
   have hc:=h2 c (by simp)
   have e:c.cells=[c]:=by cases c<;>first | rfl | simp[D.isAgg]at hc
   refine⟨c,by rw[e];exact hs,fun y' hy'=>?_,h3 0 c v rfl rfl⟩
   rw[hy]at hy'
   obtain rfl:y=y':=by simpa using hy'
   rw[hc,hr]
  split at hp
  ·rename_i hd
   rw[hd]at hu
   obtain⟨b,rfl⟩:=okWide_bool hu hok
   exact single (by rw[hd];rfl) rfl
  ·rename_i k hd
   rw[hd]at hu
   obtain⟨b,rfl⟩:=okWide_int hu hok
   exact single (by rw[hd];rfl) rfl
  ·rename_i hd
   rw[hd]at hu
   obtain⟨b,rfl⟩:=okWide_string hu hok
   exact single (by rw[hd];rfl) rfl
  ·rename_i e hd
   rw[hd]at hu
   obtain⟨a,l,c,rfl⟩:=okWide_slice hu hok
   exact single (by rw[hd];rfl) rfl
  ·rename_i fs hd
   rw[hd]at hu
   obtain⟨cs,rfl,_⟩:=okWide_struct hu hok
   refine⟨.agg ds,hs,fun y' hy'=>?_,.agg ds cs (by simpa [Value.cells] using h1.symm) h2 (fun j c u hc hu'=>h3 j c u hc (by simpa [Value.cells] using hu'))⟩
   rw[hy]at hy'
   obtain rfl:y=y':=by simpa using hy'
   rw[hd];rfl
  ·simp at hp
 ·simp at hp
theorem conv_args (hti:TIok P ti) (hT:plainB ti T=true) {Z:Zone}(hZ:∀b o,¬Z b o) {base base':Nat}{spare:Nat→Bool}{held:Bool}{r:Reach}:
  ∀(ts:List TypeId) (vs:List Value) (ds:List (DataW H)) (ps:List MemPlace),(∀t∈ts,t∈T)→DataW.TrodAll enc P w base spare held ts vs ds ps→
   (∀(j:Nat) t v,ts[j]?=some t→vs[j]?=some v→Value.okWide P w r base' t v)→
   ∃xs,Shapes ti ts xs∧∀(j:Nat) x v,xs[j]?=some x→vs[j]?=some v→RelD w Z x v
 | [],vs,ds,ps,_,h,_=>⟨[],trivial,by simp⟩
 | t::ts,vs,ds,ps,ht,h,hok=>by
  obtain⟨v,vs1,d,ds1,a,b,rfl,rfl,rfl,h1,h2⟩:=trodAll_cons h
  obtain⟨x,k1,k2,k3⟩:=conv_arg hti hT hZ (ht t (by simp)) (hok 0 t v rfl rfl) h1
  obtain⟨xs,k4,k5⟩:=conv_args hti hT hZ ts vs1 ds1 b (fun t ht'=>ht t (by simp[ht'])) h2 (fun j t v h1 h2=>hok (j+1) t v (by simpa using h1) (by simpa using h2))
  refine⟨x::xs,⟨k1,k2,k4⟩,fun j x' v' hx hv=>?_⟩
  match j with
  | 0=>simp at hx hv;subst hx;subst hv;exact k3
  | j+1=>simp at hx hv;exact k5 j x' v' hx hv
theorem again_all (hl:laidOutB P=true) {W W':World}(hb:Below W.heap.size W W'):∀(ts:List TypeId) (vs:List Value) (ds:List (DataW H)) (ps:List MemPlace),
  (∀t∈ts,P.readableRec t=true∧t<P.types.size)→DataW.TrodAll enc P W 0 (fun _=>true) true ts vs ds ps→(∀x∈ps,x.block<W.heap.size)→
  DataW.TrodAll enc P W' 0 (fun b=>decide (b<W.heap.size)) true ts vs ds ps
 | [],vs,ds,ps,_,h,_=>by
  obtain⟨rfl,rfl,rfl⟩:=trodAll_nil h
  exact rfl
 | t::ts,vs,ds,ps,ht,h,hlt=>by
  obtain⟨v,vs1,d,ds1,a,b,rfl,rfl,rfl,h1,h2⟩:=trodAll_cons h
  have ht1:=ht t (by simp)
  exact⟨a,b,Below.trod hl ht1.1 ht1.2 h1 hb (fun x hx=>hlt x (by simp[hx])),again_all hl hb ts vs1 ds1 b (fun t ht'=>ht t (by simp[ht'])) h2 (fun x hx=>hlt x (by simp[hx])),rfl⟩
theorem law_calls {I:Inv}(hti:TIok P ti) (hT:plainB ti T=true) {s:ChangeSpec}{fn:Func}{f:FuncId}{ts:List TypeId}{bt:TypeId}
  (hp:fn.params.toList=ts) (hv:s.vars=[]) (hr:fn.resultTypes=#[bt]) (hb:P.underlying bt=some .bool) (htT:∀t∈ts,t∈T)
  (hs:∀ds:List (DataW H),ds.length=ts.length→(s.fn H ds).results=[.lit (.bool true)]∧(s.fn H ds).args=ds∧(s.fn H ds).vars=[])
  (hl:laidOutB P=true) (hrec:∀t∈ts,P.readableRec t=true∧t<P.types.size)
  (hc:∀xs:List D,Shapes ti ts xs→Trip P I f (xs.map V1.d) [] (.v (.d (.bool true))) [] [])
  {W:World} {base:Nat} {args:Array Value} {ds gs:List (DataW H)} {before:List MemPlace}
  (hI:I.at W fun _ _=>False) (hval:∀(j:Nat) t v,fn.params[j]?=some t→args[j]?=some v→Value.okWide P W .any base t v)
  (hW:DataW.Whole enc P fn.params.toList s.vars false W args.toList ds gs before):
  Calls P f args W fun e W'=>∃v,e= .returned v∧s.post enc P fn false true false false W args v W':=by
 have hW':=hW
 obtain⟨p,q,hA,hV,rfl,_,_⟩:=hW
 rw[hv]at hV
 obtain⟨rfl,rfl⟩:gs=[]∧q=[]:=by
  cases gs with
  | nil=>exact⟨rfl,hV⟩
  | cons _ _=>exact hV.elim
 rw[hp]at hA
 obtain⟨hlen,hdl⟩:=trodAll_length hA
 obtain⟨xs,hsh,hrel⟩:=conv_args hti hT (Z:=fun _ _=>False) (fun _ _ h=>h) (r:=.any) (base':=base) ts args.toList ds p htT hA (fun j t v h1 h2=>hval j t v (by
  rw[←Array.getElem?_toList,hp];exact h1) (by simpa using h2))
 have hxl:=hsh.length
 have hcall:=hc xs hsh
 have hheap:∀i o,heapOf [] i=some o→False:=by
  intro i o h
  cases i<;>simp[heapOf]at h
 have hzone:∀(g:Ghost) b o,¬zone g (heapOf []) b o:=by
  rintro g b o ⟨i,ob,h,_⟩
  exact hheap i ob h
 refine (hcall.calls (w:=W) (X:=fun _ _=>False) (g:=fun _=>undef) (vals:=args) (fun _ _ h=>h.elim) (hI.mono fun b o hz=>hz.elim (hzone _ b o) id) ⟨fun i o h=>(hheap i o h).elim,fun i _ _ _ _ h=>(hheap i _ h).elim,fun i _ _ _ h=>(hheap i _ h).elim⟩ (fun _=>rfl)
  (by simp at hlen;simp;omega) (fun j x v hx hvv=>?_)).mono ?_
 ·simp only[List.getElem?_map,Option.map_eq_some_iff]at hx
  obtain⟨d,hd,rfl⟩:=hx
  exact (hrel j d v hd (by simpa using hvv)).mono (fun b o u hu _=>⟨hu,fun hz=>hz.elim (hzone _ b o) id⟩)
 ·rintro e W' ⟨v,g',rfl,hpost⟩
  obtain rfl:v= .bool true:=by cases (show RelD _ _ (.bool true) v from hpost.res);rfl
  have hbel:Below W.heap.size W W':=⟨hpost.frame.os,hpost.frame.tape,hpost.frame.output,hpost.frame.size,fun k hk=>hpost.frame.block k hk (fun o=>hzone _ k o)⟩
  obtain⟨s1,s2,s3⟩:=hs (ds++[]) (by simp[hdl])
  refine⟨_,rfl,ds,[],p++[],[],p,[],hW',?_,?_,?_,hbel.frame _,fun h=>by cases h⟩
  ·rw[s1,hr]
   exact trodAll_mk1 (shut_bool hb true)
  ·rw[s2,hp,List.append_nil]
   exact again_all hl hbel ts args.toList ds p hrec hA (fun x hx=>hW'.lt x (by simp[hx]))
  ·rw[s3,hv];rfl
end
end Go.AM
set_option linter.unusedVariables false
noncomputable section
namespace Go.Proofs.Ytiiojajgajnhpaa
open Go Go.AM
mutual
def L11_4:Nat→Int→Int→Int→(List PRow)→Option (Bool)
 | 0,_,_,_,_=>none
 | n+1,z2,z3,z15,pm16=>
  (if z15<z3 then L11_5 n z2 z3 z15 pm16 true else L11_5 n z2 z3 z15 pm16 false)
def L11_5:Nat→Int→Int→Int→(List PRow)→Bool→Option (Bool)
 | 0,_,_,_,_,_=>none
 | n+1,z2,z3,z15,pm16,b17=>
  (if b17=true then letF (IntKind.wrap .i64 (z2+z15)) fun z18=>bO1 (F49 n z18) fun z19=>bO2 (F39 n (1:Int) (1:Int) z19 ByteArray.empty ([]:List D) (0:Int) ([]:List D) pm16) fun b20 pm21=>letB (!b20) fun b22=>(if b22=true then some false else bO8 (F38 n (1:Int) pm21) fun z23 z24 s25 l26 z27 l28 b29 pm30=>letB (!b29) fun b31=>(if b31=true then L11_6 n z2 z3 z15 pm30 true else (if z24=z15 then L11_6 n z2 z3 z15 pm30 false else L11_6 n z2 z3 z15 pm30 true)))else bS (F42 n (1:Int) pm16) (fun p39=>bO2 (some p39) fun pm34 l35=>lenF l35 fun z36=>(if z36=z2 then some true else some false)) (fun pm37=>lenF [] fun z38=>(if z38=z2 then some true else some false)))
def L11_6:Nat→Int→Int→Int→(List PRow)→Bool→Option (Bool)
 | 0,_,_,_,_,_=>none
 | n+1,z2,z3,z15,pm30,b32=>
  (if b32=true then some false else letF (IntKind.wrap .i64 (z15+1)) fun z33=>L11_4 n z2 z3 z33 pm30)
end
mutual
def L11_2:Nat→Int→Int→Int→(List PRow)→Option (Bool)
 | 0,_,_,_,_=>none
 | n+1,z2,z3,z8,pm9=>
  (if z8<z2 then L11_3 n z2 z3 z8 pm9 true else L11_3 n z2 z3 z8 pm9 false)
def L11_3:Nat→Int→Int→Int→(List PRow)→Bool→Option (Bool)
 | 0,_,_,_,_,_=>none
 | n+1,z2,z3,z8,pm9,b10=>
  (if b10=true then bO1 (F49 n z8) fun z11=>bO2 (F39 n (1:Int) (1:Int) z11 ByteArray.empty ([]:List D) (0:Int) ([]:List D) pm9) fun b12 pm13=>letF (IntKind.wrap .i64 (z8+1)) fun z14=>L11_2 n z2 z3 z14 pm13 else L11_4 n z2 z3 (0:Int) pm9)
end
def L11_1:Nat→Int→Int→Int→Bool→Option (Bool)
 | 0,_,_,_,_=>none
 | n+1,z1,z2,z3,b6=>
  (if b6=true then some true else bO0 (F43 n) (bO1 (F37 n (1:Int) z1 ([]:List PRow)) fun pm7=>L11_2 n z2 z3 (0:Int) pm7))
def F11 (n:Nat) (z1:Int) (z2:Int) (z3:Int):Option (Bool):=
 bO1 (F47 n) fun b4=>letB (!b4) fun b5=>(if b5=true then some false else (if z1<(1:Int)then L11_1 n z1 z2 z3 true else (if (8:Int)<z1 then L11_1 n z1 z2 z3 true else (if z2<(0:Int)then L11_1 n z1 z2 z3 true else (if z1≤z2 then L11_1 n z1 z2 z3 true else (if z3<(0:Int)then L11_1 n z1 z2 z3 true else (if (1000:Int)<z3 then L11_1 n z1 z2 z3 true else L11_1 n z1 z2 z3 false)))))))
theorem T11 (n:Nat):∀⦃z1:Int⦄ ⦃z2:Int⦄ ⦃z3:Int⦄ ⦃r1:Bool⦄,F11 n z1 z2 z3=some r1→
    Trip Try.prog inv 11 [.d (.int .i64 z1),.d (.int .i64 z2),.d (.int .i64 z3)] [] (.v (.d (.bool r1))) [] []:=by
 intro z1 z2 z3 r1 h
 unfold F11 at h
 refine Trip.of tab_ok tab_one fol Try.func11 rfl (by kernel_rfl) rfl rfl rfl (fun M hM hI=>?_)
 try cbv
 refine seq_go ?_
 try cbv
 refine seq_go ?_
 try cbv
 refine seq_go ?_
 try cbv
 replace h:=bO1_inv h
 obtain⟨b4,hr,h⟩:=h
 refine call_go rfl rfl ?_
 try cbv
 refine call_pure hM hI (T47 _ hr) rfl ?_
 clear hr
 try cbv
 replace h:=letB_inv h
 obtain⟨b5,hz,h⟩:=h
 refine⟨b5,not_eq' hz,?_⟩
 clear hz
 try cbv
 cases b5
 rotate_left
 ·replace h:=ite_t rfl h
  try cbv
  refine seq_go ?_
  try cbv
  obtain rfl:=Option.some.inj h
  refine fin_go ?_
  try cbv
  exact⟨[],rfl,rfl,trivial,trivial,trivial⟩
 replace h:=ite_f Bool.false_ne_true h
 try cbv
 refine seq_go ?_
 try cbv
 refine seq_join (T:=Nat×Bool) (fun t=>⟨[(0,.v (.d (.int .i64 z1))),(1,.v (.d (.int .i64 z2))),(2,.v (.d (.int .i64 z3))),(6,.v (.d (.bool false))),(36,.v (.d (.bool t.2)))],[],832⟩) (fun t=>t.1≤n∧L11_1 t.1 z1 z2 z3 t.2=some r1) ?_ ?_
 ·try cbv
  refine splitL (fun e=>?_) (fun e=>?_)
  ·replace h:=ite_t e h
   clear e
   try cbv
   exact join_next (n,true) [0,1,2,6,36] [] 832 ⟨by omega,h⟩ (by cbv)
  replace h:=ite_f (Int.not_lt.2 e) h
  clear e
  try cbv
  refine splitL (fun e=>?_) (fun e=>?_)
  ·replace h:=ite_t e h
   clear e
   try cbv
   exact join_next (n,true) [0,1,2,6,36] [] 832 ⟨by omega,h⟩ (by cbv)
  replace h:=ite_f (Int.not_lt.2 e) h
  clear e
  try cbv
  refine splitL (fun e=>?_) (fun e=>?_)
  ·replace h:=ite_t e h
   clear e
   try cbv
   exact join_next (n,true) [0,1,2,6,36] [] 832 ⟨by omega,h⟩ (by cbv)
  replace h:=ite_f (Int.not_lt.2 e) h
  clear e
  try cbv
  refine splitLe (fun e=>?_) (fun e=>?_)
  ·replace h:=ite_t e h
   clear e
   try cbv
   exact join_next (n,true) [0,1,2,6,36] [] 832 ⟨by omega,h⟩ (by cbv)
  replace h:=ite_f (Int.not_le.2 e) h
  clear e
  try cbv
  refine splitL (fun e=>?_) (fun e=>?_)
  ·replace h:=ite_t e h
   clear e
   try cbv
   exact join_next (n,true) [0,1,2,6,36] [] 832 ⟨by omega,h⟩ (by cbv)
  replace h:=ite_f (Int.not_lt.2 e) h
  clear e
  try cbv
  refine splitL (fun e=>?_) (fun e=>?_)
  ·replace h:=ite_t e h
   clear e
   try cbv
   exact join_next (n,true) [0,1,2,6,36] [] 832 ⟨by omega,h⟩ (by cbv)
  replace h:=ite_f (Int.not_lt.2 e) h
  clear e
  try cbv
  exact join_next (n,false) [0,1,2,6,36] [] 832 ⟨by omega,h⟩ (by cbv)
 clear h
 rintro⟨m1,b6⟩ ⟨hm1,h⟩
 replace hm1:m1≤n:=hm1
 obtain _ | m1:=m1
 ·replace h:L11_1 0 z1 z2 z3 b6=some r1:=h
  rw[L11_1]at h
  cases h
 replace h:L11_1 (m1+1) z1 z2 z3 b6=some r1:=h
 rw[L11_1]at h
 try cbv
 cases b6
 rotate_left
 ·replace h:=ite_t rfl h
  try cbv
  refine seq_go ?_
  try cbv
  obtain rfl:=Option.some.inj h
  refine fin_go ?_
  try cbv
  exact⟨[],rfl,rfl,trivial,trivial,trivial⟩
 replace h:=ite_f Bool.false_ne_true h
 try cbv
 refine seq_go ?_
 try cbv
 replace h:=bO0_inv h
 obtain⟨hr,h⟩:=h
 refine call_go rfl rfl ?_
 try cbv
 refine call_with hM hI [] (T43 _ hr) rfl (by simp) trivial trivial (by simp) ?_
 clear hr
 try cbv
 refine seq_go ?_
 try cbv
 replace h:=bO1_inv h
 obtain⟨pm7,hr,h⟩:=h
 refine call_go rfl rfl ?_
 try cbv
 refine call_with hM hI [.loc 832,.loc 833] (T37 _ hr) rfl (by simp) ⟨rfl,⟨rfl,trivial⟩⟩ ⟨trivial,⟨trivial,trivial⟩⟩ (by simp) ?_
 clear hr
 try cbv
 refine seq_go ?_
 try cbv
 refine seq_go ?_
 try cbv
 refine loop_invG (T:=Nat×Int×List PRow) [] [] [1,2,6,7,8] [.loc 832,.loc 833] 1024 (fun t=>⟨[(1,.v (.d (.int .i64 z2))),(2,.v (.d (.int .i64 z3))),(6,.v (.d (.bool false))),(7,.v (.c (.ptr (.loc 832) 0))),(8,.v (.d (.int .i64 t.2.1)))],[(.loc 832,.cells [.ow (.loc 833)]),(.loc 833,.pmap 3 6 8 t.2.2 none)],1024⟩)
   (fun t=>t.1≤m1∧L11_2 t.1 z2 z3 t.2.1 t.2.2=some r1) (fun t=>t.1) (m1,((0:Int),pm7)) ⟨Nat.le_refl _,h⟩ (by cbv) ?_
 clear h
 rintro⟨m2,z8,pm9⟩ ⟨hm2,h⟩
 replace hm2:m2≤m1:=hm2
 obtain _ | m2:=m2
 ·replace h:L11_2 0 z2 z3 z8 pm9=some r1:=h
  rw[L11_2]at h
  cases h
 replace h:L11_2 (m2+1) z2 z3 z8 pm9=some r1:=h
 rw[L11_2]at h
 try cbv
 refine seq_go ?_
 try cbv
 refine seq_join (T:=Nat×Bool) (fun t=>⟨[(1,.v (.d (.int .i64 z2))),(2,.v (.d (.int .i64 z3))),(6,.v (.d (.bool false))),(7,.v (.c (.ptr (.loc 832) 0))),(8,.v (.d (.int .i64 z8))),(43,.v (.d (.bool t.2)))],[(.loc 832,.cells [.ow (.loc 833)]),(.loc 833,.pmap 3 6 8 pm9 none)],1120⟩) (fun t=>t.1≤m2∧L11_3 t.1 z2 z3 z8 pm9 t.2=some r1) ?_ ?_
 ·try cbv
  refine splitL (fun e=>?_) (fun e=>?_)
  ·replace h:=ite_t e h
   clear e
   try cbv
   exact join_next (m2,true) [1,2,6,7,8,43] [.loc 832,.loc 833] 1120 ⟨by omega,h⟩ (by cbv)
  replace h:=ite_f (Int.not_lt.2 e) h
  clear e
  try cbv
  exact join_next (m2,false) [1,2,6,7,8,43] [.loc 832,.loc 833] 1120 ⟨by omega,h⟩ (by cbv)
 clear h
 rintro⟨m3,b10⟩ ⟨hm3,h⟩
 replace hm3:m3≤m2:=hm3
 obtain _ | m3:=m3
 ·replace h:L11_3 0 z2 z3 z8 pm9 b10=some r1:=h
  rw[L11_3]at h
  cases h
 replace h:L11_3 (m3+1) z2 z3 z8 pm9 b10=some r1:=h
 rw[L11_3]at h
 try cbv
 cases b10
 rotate_left
 ·replace h:=ite_t rfl h
  try cbv
  refine seq_go ?_
  try cbv
  replace h:=bO1_inv h
  obtain⟨z11,hr,h⟩:=h
  refine call_go rfl rfl ?_
  try cbv
  refine call_pure hM hI (T49 _ hr) rfl ?_
  clear hr
  try cbv
  replace h:=bO2_inv h
  obtain⟨b12,pm13,hr,h⟩:=h
  refine call_go rfl rfl ?_
  try cbv
  refine call_with hM hI [.loc 832,.loc 833] (T39 _ hr) rfl (by simp) ⟨rfl,⟨rfl,trivial⟩⟩ ⟨trivial,⟨trivial,trivial⟩⟩ (by simp) ?_
  clear hr
  try cbv
  replace h:=letF_inv h
  obtain⟨z14,hz,h⟩:=h
  refine⟨z14,hz,?_⟩
  clear hz
  try cbv
  refine loop_nextG (m3,(z14,pm13)) [] [] [1,2,6,7,8] [.loc 832,.loc 833] 1024 ⟨by omega,h⟩ (Nat.lt_succ_of_le (by omega)) ?_
  try cbv
 replace h:=ite_f Bool.false_ne_true h
 try cbv
 refine seq_go ?_
 try cbv
 refine seq_go ?_
 try cbv
 refine loop_invG (T:=Nat×Int×List PRow) [] [] [1,2,6,7,9] [.loc 832,.loc 833] 1152 (fun t=>⟨[(1,.v (.d (.int .i64 z2))),(2,.v (.d (.int .i64 z3))),(6,.v (.d (.bool false))),(7,.v (.c (.ptr (.loc 832) 0))),(9,.v (.d (.int .i64 t.2.1)))],[(.loc 832,.cells [.ow (.loc 833)]),(.loc 833,.pmap 3 6 8 t.2.2 none)],1152⟩)
   (fun t=>t.1≤m3∧L11_4 t.1 z2 z3 t.2.1 t.2.2=some r1) (fun t=>t.1) (m3,((0:Int),pm9)) ⟨Nat.le_refl _,h⟩ (by cbv) ?_
 clear h
 rintro⟨m4,z15,pm16⟩ ⟨hm4,h⟩
 replace hm4:m4≤m3:=hm4
 obtain _ | m4:=m4
 ·replace h:L11_4 0 z2 z3 z15 pm16=some r1:=h
  rw[L11_4]at h
  cases h
 replace h:L11_4 (m4+1) z2 z3 z15 pm16=some r1:=h
 rw[L11_4]at h
 try cbv
 refine seq_go ?_
 try cbv
 refine seq_join (T:=Nat×Bool) (fun t=>⟨[(1,.v (.d (.int .i64 z2))),(2,.v (.d (.int .i64 z3))),(6,.v (.d (.bool false))),(7,.v (.c (.ptr (.loc 832) 0))),(9,.v (.d (.int .i64 z15))),(52,.v (.d (.bool t.2)))],[(.loc 832,.cells [.ow (.loc 833)]),(.loc 833,.pmap 3 6 8 pm16 none)],1248⟩) (fun t=>t.1≤m4∧L11_5 t.1 z2 z3 z15 pm16 t.2=some r1) ?_ ?_
 ·try cbv
  refine splitL (fun e=>?_) (fun e=>?_)
  ·replace h:=ite_t e h
   clear e
   try cbv
   exact join_next (m4,true) [1,2,6,7,9,52] [.loc 832,.loc 833] 1248 ⟨by omega,h⟩ (by cbv)
  replace h:=ite_f (Int.not_lt.2 e) h
  clear e
  try cbv
  exact join_next (m4,false) [1,2,6,7,9,52] [.loc 832,.loc 833] 1248 ⟨by omega,h⟩ (by cbv)
 clear h
 rintro⟨m5,b17⟩ ⟨hm5,h⟩
 replace hm5:m5≤m4:=hm5
 obtain _ | m5:=m5
 ·replace h:L11_5 0 z2 z3 z15 pm16 b17=some r1:=h
  rw[L11_5]at h
  cases h
 replace h:L11_5 (m5+1) z2 z3 z15 pm16 b17=some r1:=h
 rw[L11_5]at h
 try cbv
 cases b17
 ·replace h:=ite_f Bool.false_ne_true h
  try cbv
  refine seq_go ?_
  try cbv
  replace h:=bS_inv h
  rcases h with⟨p39,hr,h⟩ | ⟨pm37,hr,h⟩
  ·replace h:=bO2_inv h
   obtain⟨pm34,l35,hp,h⟩:=h
   obtain rfl:=Option.some.inj hp
   clear hp
   refine call_go rfl rfl ?_
   try cbv
   refine call_with hM hI [.loc 832,.loc 833] (T42 _ hr (fun r p n=>r= .v (.c (.ow (.loc 0)))∧p=[.cells [.ow (.ext 1)],.pmap 3 6 8 pm34 none]∧n=[.tree .flat true 6 l35 none]) ⟨rfl,rfl,rfl⟩:Trip _ _ _ _ _ (.v (.c (.ow (.loc 0)))) [.cells [.ow (.ext 1)],.pmap 3 6 8 pm34 none] [.tree .flat true 6 l35 none]) rfl (by simp) ⟨rfl,⟨rfl,trivial⟩⟩ ⟨trivial,⟨trivial,trivial⟩⟩ (by simp) ?_
   clear hr
   try cbv
   replace h:=lenF_inv M h
   obtain⟨z36,hz,h⟩:=h
   refine⟨z36,hz,?_⟩
   clear hz
   try cbv
   refine splitI (fun e=>?_) (fun e=>?_)
   ·replace h:=ite_t e h
    clear e
    try cbv
    obtain rfl:=Option.some.inj h
    refine fin_go ?_
    try cbv
    exact⟨[],rfl,rfl,trivial,trivial,trivial⟩
   replace h:=ite_f e h
   clear e
   try cbv
   obtain rfl:=Option.some.inj h
   refine fin_go ?_
   try cbv
   exact⟨[],rfl,rfl,trivial,trivial,trivial⟩
  refine call_go rfl rfl ?_
  try cbv
  refine call_with hM hI [.loc 832,.loc 833] (T42 _ hr (fun r p n=>r= .v (.c (.ow (.loc 0)))∧p=[.cells [.ow (.ext 1)],.pmap 3 6 8 pm37 none]∧n=[.tree .row true 6 [] none]) ⟨rfl,rfl,rfl⟩:Trip _ _ _ _ _ (.v (.c (.ow (.loc 0)))) [.cells [.ow (.ext 1)],.pmap 3 6 8 pm37 none] [.tree .row true 6 [] none]) rfl (by simp) ⟨rfl,⟨rfl,trivial⟩⟩ ⟨trivial,⟨trivial,trivial⟩⟩ (by simp) ?_
  clear hr
  try cbv
  replace h:=lenF_inv M h
  obtain⟨z38,hz,h⟩:=h
  refine⟨false,?_⟩
  try cbv
  refine⟨z38,hz,?_⟩
  clear hz
  try cbv
  refine splitI (fun e=>?_) (fun e=>?_)
  ·replace h:=ite_t e h
   clear e
   try cbv
   obtain rfl:=Option.some.inj h
   refine fin_go ?_
   try cbv
   exact⟨[],rfl,rfl,trivial,trivial,trivial⟩
  replace h:=ite_f e h
  clear e
  try cbv
  obtain rfl:=Option.some.inj h
  refine fin_go ?_
  try cbv
  exact⟨[],rfl,rfl,trivial,trivial,trivial⟩
 replace h:=ite_t rfl h
 try cbv
 refine seq_go ?_
 try cbv
 refine seq_go ?_
 try cbv
 refine seq_go ?_
 try cbv
 replace h:=letF_inv h
 obtain⟨z18,hz,h⟩:=h
 refine⟨z18,hz,?_⟩
 clear hz
 try cbv
 replace h:=bO1_inv h
 obtain⟨z19,hr,h⟩:=h
 refine call_go rfl rfl ?_
 try cbv
 refine call_pure hM hI (T49 _ hr) rfl ?_
 clear hr
 try cbv
 replace h:=bO2_inv h
 obtain⟨b20,pm21,hr,h⟩:=h
 refine call_go rfl rfl ?_
 try cbv
 refine call_with hM hI [.loc 832,.loc 833] (T39 _ hr) rfl (by simp) ⟨rfl,⟨rfl,trivial⟩⟩ ⟨trivial,⟨trivial,trivial⟩⟩ (by simp) ?_
 clear hr
 try cbv
 replace h:=letB_inv h
 obtain⟨b22,hz,h⟩:=h
 refine⟨b22,not_eq' hz,?_⟩
 clear hz
 try cbv
 cases b22
 rotate_left
 ·replace h:=ite_t rfl h
  try cbv
  refine seq_go ?_
  try cbv
  obtain rfl:=Option.some.inj h
  refine fin_go ?_
  try cbv
  exact⟨[],rfl,rfl,trivial,trivial,trivial⟩
 replace h:=ite_f Bool.false_ne_true h
 try cbv
 refine seq_go ?_
 try cbv
 replace h:=bO8_inv h
 obtain⟨z23,z24,s25,l26,z27,l28,b29,pm30,hr,h⟩:=h
 refine call_go rfl rfl ?_
 try cbv
 refine call_with hM hI [.loc 832,.loc 833] (T38 _ hr) rfl (by simp) ⟨rfl,⟨rfl,trivial⟩⟩ ⟨trivial,⟨trivial,trivial⟩⟩ (by simp) ?_
 clear hr
 try cbv
 refine seq_join (T:=Nat×Bool) (fun t=>⟨[(1,.v (.d (.int .i64 z2))),(2,.v (.d (.int .i64 z3))),(6,.v (.d (.bool false))),(7,.v (.c (.ptr (.loc 832) 0))),(9,.v (.d (.int .i64 z15))),(74,.v (.d (.bool t.2)))],[(.loc 832,.cells [.ow (.loc 833)]),(.loc 833,.pmap 3 6 8 pm30 none)],1984⟩) (fun t=>t.1≤m5∧L11_6 t.1 z2 z3 z15 pm30 t.2=some r1) ?_ ?_
 ·try cbv
  replace h:=letB_inv h
  obtain⟨b31,hz,h⟩:=h
  refine⟨b31,not_eq' hz,?_⟩
  clear hz
  try cbv
  cases b31
  ·replace h:=ite_f Bool.false_ne_true h
   try cbv
   refine splitI (fun e=>?_) (fun e=>?_)
   ·replace h:=ite_t e h
    clear e
    try cbv
    exact join_next (m5,false) [1,2,6,7,9,74] [.loc 832,.loc 833] 1984 ⟨by omega,h⟩ (by cbv)
   replace h:=ite_f e h
   clear e
   try cbv
   exact join_next (m5,true) [1,2,6,7,9,74] [.loc 832,.loc 833] 1984 ⟨by omega,h⟩ (by cbv)
  replace h:=ite_t rfl h
  try cbv
  exact join_next (m5,true) [1,2,6,7,9,74] [.loc 832,.loc 833] 1984 ⟨by omega,h⟩ (by cbv)
 clear h
 rintro⟨m6,b32⟩ ⟨hm6,h⟩
 replace hm6:m6≤m5:=hm6
 obtain _ | m6:=m6
 ·replace h:L11_6 0 z2 z3 z15 pm30 b32=some r1:=h
  rw[L11_6]at h
  cases h
 replace h:L11_6 (m6+1) z2 z3 z15 pm30 b32=some r1:=h
 rw[L11_6]at h
 try cbv
 cases b32
 ·replace h:=ite_f Bool.false_ne_true h
  try cbv
  replace h:=letF_inv h
  obtain⟨z33,hz,h⟩:=h
  refine⟨z33,hz,?_⟩
  clear hz
  try cbv
  refine loop_nextG (m6,(z33,pm30)) [] [] [1,2,6,7,9] [.loc 832,.loc 833] 1152 ⟨by omega,h⟩ (Nat.lt_succ_of_le (by omega)) ?_
  try cbv
 replace h:=ite_t rfl h
 try cbv
 refine seq_go ?_
 try cbv
 obtain rfl:=Option.some.inj h
 refine fin_go ?_
 try cbv
 exact⟨[],rfl,rfl,trivial,trivial,trivial⟩
end Go.Proofs.Ytiiojajgajnhpaa
end
set_option linter.unusedVariables false
noncomputable section
namespace Go.Proofs.Ytiiojajgajnhpaa
open Go Go.AM
def numsAt (i n:Nat):List VV:=(List.range n).map fun k=>wv ((i+k:Nat):Int)
theorem numsAt_len (i n:Nat):(numsAt i n).length=n:=by simp[numsAt]
theorem numsAt_snoc (i n:Nat):numsAt i n++[wv ((n:Int)+(i:Int))]=wv (i:Int)::numsAt (i+1) n:=by
 have h1:numsAt i n++[wv ((n:Int)+(i:Int))]=numsAt i (n+1):=by
  simp only[numsAt,List.range_succ,List.map_append,List.map_cons,List.map_nil]
  rw[show ((i+n:Nat):Int)=(n:Int)+(i:Int)by omega]
 rw[h1]
 simp only[numsAt,List.range_succ_eq_map,List.map_cons,List.map_map,Nat.add_zero]
 congr 1
 refine List.map_congr_left fun k _=>?_
 show wv ((i+(k+1):Nat):Int)=wv ((i+1+k:Nat):Int)
 rw[show i+(k+1)=i+1+k by omega]
theorem numsAt_next (n:Nat):numsAt 0 (n+1)=numsAt 0 n++[wv (n:Int)]:=by
 simp only[numsAt,List.range_succ,List.map_append,List.map_cons,List.map_nil,Nat.zero_add]
theorem round_law (z1 z2 z3:Int):Ev (fun n=>F11 n z1 z2 z3) true:=by
 have f43:∀n,F43 n=some ():=fun n=>rfl
 unfold F11
 refine Ev.bO1 ev_awake ?_
 simp only[letB,Bool.not_true,Bool.false_eq_true,if_false]
 have yes:Ev (fun n=>L11_1 n z1 z2 z3 true) true:=.succ (by simp only[L11_1,if_true];exact .ret)
 by_cases c1:z1<1
 ·simp only[if_pos c1];exact yes
 by_cases c2:8<z1
 ·simp only[if_neg c1,if_pos c2];exact yes
 by_cases c3:z2<0
 ·simp only[if_neg c1,if_neg c2,if_pos c3];exact yes
 by_cases c4:z1≤z2
 ·simp only[if_neg c1,if_neg c2,if_neg c3,if_pos c4];exact yes
 by_cases c5:z3<0
 ·simp only[if_neg c1,if_neg c2,if_neg c3,if_neg c4,if_pos c5];exact yes
 by_cases c6:1000<z3
 ·simp only[if_neg c1,if_neg c2,if_neg c3,if_neg c4,if_neg c5,if_pos c6];exact yes
 simp only[if_neg c1,if_neg c2,if_neg c3,if_neg c4,if_neg c5,if_neg c6]
 obtain⟨N,rfl⟩:∃N:Nat,z2=(N:Int):=⟨z2.toNat,by omega⟩
 obtain⟨T,rfl⟩:∃T:Nat,z3=(T:Int):=⟨z3.toNat,by omega⟩
 obtain⟨p1,e1,k1⟩:=evMk (pm:=[]) (S:=[]) (S':=[⟨1,z1,[]⟩]) trivial 1 z1 (by simp only[makeC,getC];rw[if_neg (by omega)];rfl)
 -- the rounds
 have turns:∀i:Nat,i≤T→∀pm,QOK pm [⟨1,z1,numsAt i N⟩]→Ev (fun n=>L11_4 n (N:Int) (T:Int) (i:Int) pm) true:=by
  refine down T ?_ ?_
  ·intro pm h
   obtain⟨p2,e2,k2⟩:=evDropS h (z:=1) (c:=⟨1,z1,numsAt T N⟩) (by simp[getC])
   refine .succ ?_
   simp only[L11_4,Int.lt_irrefl,if_false]
   refine .succ ?_
   simp only[L11_5,Bool.false_eq_true,if_false]
   refine Ev.bSl e2 ?_
   have hl:(((numsAt T N).map VV.row).length:Int)=(N:Int):=by simp[numsAt_len]
   refine .of fun n=>?_
   show bO2 (some (_,_)) _=_
   simp only[bO2,lenF,hl,if_true]
  ·intro i hi ih pm h
   have hw:(-9223372036854775808:Int)≤(N:Int)+(i:Int)∧(N:Int)+(i:Int)≤9223372036854775807:=by omega
   obtain⟨p2,e2,k2⟩:=evPu h 1 (wv_VS (i:=(N:Int)+(i:Int)) (wfi hw.1 hw.2)) (b:=true) (S':=[⟨1,z1,wv (i:Int)::numsAt (i+1) N⟩]) (by
    simp only[pushC,getC,updC,if_true,numsAt_len,numsAt_snoc]
    rw[if_neg (by omega)])
   obtain⟨p3,e3,k3⟩:=evPo k2 1 (v:=wv (i:Int)) (b:=true) (S':=[⟨1,z1,numsAt (i+1) N⟩]) (by simp[popC,getC,updC])
   refine .succ ?_
   simp only[L11_4,if_pos (ilt hi)]
   refine .succ ?_
   simp only[L11_5,if_true,letF,iw hw.1 hw.2]
   refine Ev.bO1 (ev49 _) (Ev.bO2 e2 ?_)
   simp only[letB,Bool.not_true,Bool.false_eq_true,if_false]
   refine Ev.bO8 e3 ?_
   simp only[Bool.not_true,Bool.false_eq_true,if_false,wv,if_true]
   refine .succ ?_
   simp only[L11_6,Bool.false_eq_true,if_false,letF,iw (show -9223372036854775808≤(i:Int)+1 by omega) (by omega)]
   exact ih p3 k3
 have fill:∀i:Nat,i≤N→∀pm,QOK pm [⟨1,z1,numsAt 0 i⟩]→Ev (fun n=>L11_2 n (N:Int) (T:Int) (i:Int) pm) true:=by
  refine down N ?_ ?_
  ·intro pm h
   refine .succ ?_
   simp only[L11_2,Int.lt_irrefl,if_false]
   refine .succ ?_
   simp only[L11_3,Bool.false_eq_true,if_false]
   exact turns 0 (Nat.zero_le _) pm h
  ·intro i hi ih pm h
   obtain⟨p2,e2,k2⟩:=evPu h 1 (wv_VS (i:=(i:Int)) (wfi (by omega) (by omega))) (b:=true) (S':=[⟨1,z1,numsAt 0 (i+1)⟩]) (by
    simp only[pushC,getC,updC,if_true,numsAt_len,numsAt_next]
    rw[if_neg (by omega)])
   refine .succ ?_
   simp only[L11_2,if_pos (ilt hi)]
   refine .succ ?_
   simp only[L11_3,if_true]
   refine Ev.bO1 (ev49 _) (Ev.bO2 e2 ?_)
   simp only[letF,iw (show -9223372036854775808≤(i:Int)+1 by omega) (by omega)]
   exact ih p2 k2
 refine .succ ?_
 simp only[L11_1,Bool.false_eq_true,if_false]
 exact Ev.bO0 (.of f43) (Ev.bO1 e1 (fill 0 (Nat.zero_le _) p1 k1))
theorem queues_round_trip:∀xs:List D,Shapes tab [3,3,3] xs→Trip Try.prog inv 11 (xs.map V1.d) [] (.v (.d (.bool true))) [] []:=by
 intro xs h
 match xs,h with
 | [u,v,w],⟨u1,u2,v1,v2,w1,w2,_⟩=>
  obtain⟨a,rfl,_⟩:=rs3 ⟨u1,u2⟩
  obtain⟨b,rfl,_⟩:=rs3 ⟨v1,v2⟩
  obtain⟨c,rfl,_⟩:=rs3 ⟨w1,w2⟩
  obtain⟨n,hn⟩:=(round_law a b c).run
  exact T11 n hn
theorem queues_room_trip:∀xs:List D,Shapes tab [3,3] xs→Trip Try.prog inv 10 (xs.map V1.d) [] (.v (.d (.bool true))) [] []:=by
 intro xs h
 match xs,h with
 | [u,v],⟨u1,u2,v1,v2,_⟩=>
  obtain⟨a,rfl,_⟩:=rs3 ⟨u1,u2⟩
  obtain⟨b,rfl,_⟩:=rs3 ⟨v1,v2⟩
  obtain⟨n,hn⟩:=(room_law a b).run
  exact T10 n hn
end Go.Proofs.Ytiiojajgajnhpaa
end
namespace Go.Proofs.Ytiiojajgajnhpaa
open Go Go.ChangeShapes Go.WideShapes Go.ChangeAt Go.RowKit Go.AM
theorem queues_room_reads:∀t∈[3,3],Try.prog.readableRec t=true∧t<Try.prog.types.size:=by
 have h:([3,3].all fun t=>Try.prog.readableRec t&&decide (t<Try.prog.types.size))=true:=by kernel_rfl
 intro t ht
 have:=List.all_eq_true.1 h t ht
 simpa using this
set_option maxRecDepth 100000 in
theorem queues_room_lifted (os:Os) (started:os.Started) (H:Type) (enc:TypeId×Value→H):
  ReturnsInHanded {} Try.checked os 10 .any (Rows.queuesRoomSpec.pre6 enc Try.prog Try.f10 Rows.queuesRoomRow.domain false) (Rows.queuesRoomSpec.post enc Try.prog Try.f10 false true false false):=by
 refine returnsInHanded_of_change (C:=Try.checked) (by kernel_rfl) started (by kernel_rfl) Try.func10
  (ChangeSpec.witness6 (enc:=enc) (C:=Try.checked) false ⟨#[],#[.int .i64 0,.int .i64 0],[]⟩ 8 (by kernel_rfl) (by kernel_rfl) (by kernel_rfl) (by kernel_rfl)) ?_
 intro W base args ds gs before hval0 hW _ _
 refine law_calls (ti:=tab) (T:=[3]) tab_ok (by kernel_rfl) (ts:=[3,3]) (bt:=4) rfl rfl rfl (by kernel_rfl) (by decide) ?_ (by kernel_rfl) queues_room_reads queues_room_trip ⟨trivial,fun _ h=>h.elim⟩ hval0 hW
 intro ds h
 match ds,h with
 | [_,_],_=>exact⟨rfl,rfl,rfl⟩
theorem queues_room:Rows.QueuesRoomSaid:=
 OpenClaim.holds_of_wide 10 Try.f10 rfl rfl rfl rfl rfl rfl rfl ⟨rfl,rfl,rfl,rfl,rfl⟩ rfl rfl rfl rfl rfl (by kernel_rfl) Try.func10 (by kernel_rfl)
  (of_decide_eq_true (by kernel_rfl)) (by unfold Func.isWrapper;first | (rw[if_pos (by decide+kernel)];kernel_rfl) | (rw[if_neg (by decide+kernel)];exact⟨rfl,rfl⟩))
  (fun os started H enc _=>queues_room_lifted os started H enc)
end Go.Proofs.Ytiiojajgajnhpaa
namespace Go.Proofs.Ytiiojajgajnhpaa
open Go Go.ChangeShapes Go.WideShapes Go.ChangeAt Go.RowKit Go.AM
theorem queues_round_reads:∀t∈[3,3,3],Try.prog.readableRec t=true∧t<Try.prog.types.size:=by
 have h:([3,3,3].all fun t=>Try.prog.readableRec t&&decide (t<Try.prog.types.size))=true:=by kernel_rfl
 intro t ht
 have:=List.all_eq_true.1 h t ht
 simpa using this
set_option maxRecDepth 100000 in
theorem queues_round_lifted (os:Os) (started:os.Started) (H:Type) (enc:TypeId×Value→H):
  ReturnsInHanded {} Try.checked os 11 .any (Rows.queuesRoundSpec.pre6 enc Try.prog Try.f11 Rows.queuesRoundRow.domain false) (Rows.queuesRoundSpec.post enc Try.prog Try.f11 false true false false):=by
 refine returnsInHanded_of_change (C:=Try.checked) (by kernel_rfl) started (by kernel_rfl) Try.func11
  (ChangeSpec.witness6 (enc:=enc) (C:=Try.checked) false ⟨#[],#[.int .i64 0,.int .i64 0,.int .i64 0],[]⟩ 8 (by kernel_rfl) (by kernel_rfl) (by kernel_rfl) (by kernel_rfl)) ?_
 intro W base args ds gs before hval0 hW _ _
 refine law_calls (ti:=tab) (T:=[3]) tab_ok (by kernel_rfl) (ts:=[3,3,3]) (bt:=4) rfl rfl rfl (by kernel_rfl) (by decide) ?_ (by kernel_rfl) queues_round_reads queues_round_trip ⟨trivial,fun _ h=>h.elim⟩ hval0 hW
 intro ds h
 match ds,h with
 | [_,_,_],_=>exact⟨rfl,rfl,rfl⟩
theorem queues_round:Rows.QueuesRoundSaid:=
 OpenClaim.holds_of_wide 11 Try.f11 rfl rfl rfl rfl rfl rfl rfl ⟨rfl,rfl,rfl,rfl,rfl⟩ rfl rfl rfl rfl rfl (by kernel_rfl) Try.func11 (by kernel_rfl)
  (of_decide_eq_true (by kernel_rfl)) (by unfold Func.isWrapper;first | (rw[if_pos (by decide+kernel)];kernel_rfl) | (rw[if_neg (by decide+kernel)];exact⟨rfl,rfl⟩))
  (fun os started H enc _=>queues_round_lifted os started H enc)
end Go.Proofs.Ytiiojajgajnhpaa
set_option linter.unusedVariables false
noncomputable section
namespace Go.Proofs.Ytiiojajgajnhpaa
open Go Go.AM
def L8_9:Nat→(List D)→(List D)→(List PRow)→Option (Bool)
 | 0,_,_,_=>none
 | n+1,l8,l100,pm101=>
  bO1 (F48 n l8 l100) fun b102=>(if b102=true then bO2 (F40 n (7:Int) pm101) fun b103 pm104=>(if b103=true then bO2 (F41 n (7:Int) pm104) fun b105 pm106=>some b105 else some false)else some false)
def L8_8:Nat→(List D)→(List D)→Bool→(List PRow)→Option (Bool)
 | 0,_,_,_,_=>none
 | n+1,l8,l9,b91,pm92=>
  (if b91=true then some false else bS (F42 n (7:Int) pm92) (fun p98=>bO2 (some p98) fun pm93 l94=>appF 88 l9 l94 fun l95=>L8_9 n l8 l95 pm93) (fun pm96=>appF 88 l9 [] fun l97=>L8_9 n l8 l97 pm96))
mutual
def L8_2:Nat→Int→(List D)→(List D)→(List D)→Int→(List PRow)→Option (Bool)
 | 0,_,_,_,_,_,_=>none
 | n+1,z1,l2,l8,l9,z10,pm11=>
  lenF l2 fun z12=>(if z10<z12 then L8_3 n z1 l2 l8 l9 z10 pm11 true else L8_3 n z1 l2 l8 l9 z10 pm11 false)
def L8_3:Nat→Int→(List D)→(List D)→(List D)→Int→(List PRow)→Bool→Option (Bool)
 | 0,_,_,_,_,_,_,_=>none
 | n+1,z1,l2,l8,l9,z10,pm11,b13=>
  (if b13=true then getF l2 z10 fun x14=>ds_t61 x14 fun z15 z16 z17 z18 z19 s20 l21 z22 l23=>(if (4:Int)≤z15 then L8_4 n z1 l2 l8 l9 z10 pm11 true else L8_4 n z1 l2 l8 l9 z10 pm11 false)else bO2 (F40 n (7:Int) pm11) fun b72 pm73=>lenF l8 fun z74=>lenF l9 fun z75=>letF (IntKind.wrap .i64 (z74 - z75)) fun z76=>(if z76=z1 then letB (!(b72==true)) fun b77=>(if b77=true then L8_8 n l8 l9 true pm73 else bO2 (F41 n (7:Int) pm73) fun b78 pm79=>lenF l8 fun z80=>lenF l9 fun z81=>(if z80=z81 then letB (!(b78==true)) fun b82=>L8_8 n l8 l9 b82 pm79 else letB (!(b78==false)) fun b83=>L8_8 n l8 l9 b83 pm79))else letB (!(b72==false)) fun b84=>(if b84=true then L8_8 n l8 l9 true pm73 else bO2 (F41 n (7:Int) pm73) fun b85 pm86=>lenF l8 fun z87=>lenF l9 fun z88=>(if z87=z88 then letB (!(b85==true)) fun b89=>L8_8 n l8 l9 b89 pm86 else letB (!(b85==false)) fun b90=>L8_8 n l8 l9 b90 pm86))))
def L8_4:Nat→Int→(List D)→(List D)→(List D)→Int→(List PRow)→Bool→Option (Bool)
 | 0,_,_,_,_,_,_,_=>none
 | n+1,z1,l2,l8,l9,z10,pm11,b24=>
  (if b24=true then bO8 (F38 n (7:Int) pm11) fun z25 z26 s27 l28 z29 l30 b31 pm32=>lenF l8 fun z33=>lenF l9 fun z34=>(if z34<z33 then letB (!(b31==true)) fun b35=>L8_5 n z1 l2 l8 l9 z10 z25 z26 s27 l28 z29 l30 b31 pm32 b35 else letB (!(b31==false)) fun b36=>L8_5 n z1 l2 l8 l9 z10 z25 z26 s27 l28 z29 l30 b31 pm32 b36)else getF l2 z10 fun x39=>ds_t61 x39 fun z40 z41 z42 z43 z44 s45 l46 z47 l48=>bO2 (F39 n (7:Int) z43 z44 s45 l46 z47 l48 pm11) fun b49 pm50=>lenF l8 fun z51=>lenF l9 fun z52=>letF (IntKind.wrap .i64 (z51 - z52)) fun z53=>(if z53<z1 then letB (!(b49==true)) fun b54=>L8_6 n z1 l2 l8 l9 z10 b49 pm50 b54 else letB (!(b49==false)) fun b55=>L8_6 n z1 l2 l8 l9 z10 b49 pm50 b55))
def L8_5:Nat→Int→(List D)→(List D)→(List D)→Int→Int→Int→ByteArray→(List D)→Int→(List D)→Bool→(List PRow)→Bool→Option (Bool)
 | 0,_,_,_,_,_,_,_,_,_,_,_,_,_,_=>none
 | n+1,z1,l2,l8,l9,z10,z25,z26,s27,l28,z29,l30,b31,pm32,b37=>
  (if b37=true then some false else (if b31=true then appF 88 l9 ([.agg [.int .u8 z25,.int .i64 z26,.str s27,.list true 6 l28,.int .i64 z29,.list false 1 l30]]) fun l38=>L8_7 n z1 l2 z10 l8 l38 pm32 else L8_7 n z1 l2 z10 l8 l9 pm32))
def L8_6:Nat→Int→(List D)→(List D)→(List D)→Int→Bool→(List PRow)→Bool→Option (Bool)
 | 0,_,_,_,_,_,_,_,_=>none
 | n+1,z1,l2,l8,l9,z10,b49,pm50,b56=>
  (if b56=true then some false else (if b49=true then getF l2 z10 fun x57=>ds_t61 x57 fun z58 z59 z60 z61 z62 s63 l64 z65 l66=>appF 88 l8 ([.agg [.int .u8 z61,.int .i64 z62,.str s63,.list true 6 l64,.int .i64 z65,.list false 1 l66]]) fun l67=>L8_7 n z1 l2 z10 l67 l9 pm50 else L8_7 n z1 l2 z10 l8 l9 pm50))
def L8_7:Nat→Int→(List D)→Int→(List D)→(List D)→(List PRow)→Option (Bool)
 | 0,_,_,_,_,_,_=>none
 | n+1,z1,l2,z10,l68,l69,pm70=>
  letF (IntKind.wrap .i64 (z10+1)) fun z71=>L8_2 n z1 l2 l68 l69 z71 pm70
end
def L8_1:Nat→Int→(List D)→Bool→Option (Bool)
 | 0,_,_,_=>none
 | n+1,z1,l2,b6=>
  (if b6=true then some true else bO0 (F43 n) (bO1 (F37 n (7:Int) z1 ([]:List PRow)) fun pm7=>L8_2 n z1 l2 ([]:List D) ([]:List D) (0:Int) pm7))
def F8 (n:Nat) (z1:Int) (l2:List D):Option (Bool):=
 bO1 (F47 n) fun b3=>letB (!b3) fun b4=>(if b4=true then some false else (if z1<(1:Int)then L8_1 n z1 l2 true else (if (8:Int)<z1 then L8_1 n z1 l2 true else bO1 (F36 n l2) fun b5=>L8_1 n z1 l2 b5)))
theorem T8 (n:Nat):∀⦃z1:Int⦄ ⦃l2:List D⦄ ⦃r1:Bool⦄,F8 n z1 l2=some r1→
    Trip Try.prog inv 8 [.d (.int .i64 z1),.d (.list true 9 l2)] [] (.v (.d (.bool r1))) [] []:=by
 intro z1 l2 r1 h
 unfold F8 at h
 refine Trip.of tab_ok tab_one fol Try.func8 rfl (by kernel_rfl) rfl rfl rfl (fun M hM hI=>?_)
 try cbv
 refine seq_go ?_
 try cbv
 refine seq_go ?_
 try cbv
 refine seq_go ?_
 try cbv
 replace h:=bO1_inv h
 obtain⟨b3,hr,h⟩:=h
 refine call_go rfl rfl ?_
 try cbv
 refine call_pure hM hI (T47 _ hr) rfl ?_
 clear hr
 try cbv
 replace h:=letB_inv h
 obtain⟨b4,hz,h⟩:=h
 refine⟨b4,not_eq' hz,?_⟩
 clear hz
 try cbv
 cases b4
 rotate_left
 ·replace h:=ite_t rfl h
  try cbv
  refine seq_go ?_
  try cbv
  obtain rfl:=Option.some.inj h
  refine fin_go ?_
  try cbv
  exact⟨[],rfl,rfl,trivial,trivial,trivial⟩
 replace h:=ite_f Bool.false_ne_true h
 try cbv
 refine seq_go ?_
 try cbv
 refine seq_join (T:=Nat×Bool) (fun t=>⟨[(0,.v (.d (.int .i64 z1))),(1,.v (.d (.list true 9 l2))),(4,.v (.d (.bool false))),(23,.v (.d (.bool t.2)))],[],416⟩) (fun t=>t.1≤n∧L8_1 t.1 z1 l2 t.2=some r1) ?_ ?_
 ·try cbv
  refine splitL (fun e=>?_) (fun e=>?_)
  ·replace h:=ite_t e h
   clear e
   try cbv
   exact join_next (n,true) [0,1,4,23] [] 416 ⟨by omega,h⟩ (by cbv)
  replace h:=ite_f (Int.not_lt.2 e) h
  clear e
  try cbv
  refine splitL (fun e=>?_) (fun e=>?_)
  ·replace h:=ite_t e h
   clear e
   try cbv
   exact join_next (n,true) [0,1,4,23] [] 416 ⟨by omega,h⟩ (by cbv)
  replace h:=ite_f (Int.not_lt.2 e) h
  clear e
  try cbv
  replace h:=bO1_inv h
  obtain⟨b5,hr,h⟩:=h
  refine call_go rfl rfl ?_
  try cbv
  refine call_pure hM hI (T36 _ hr) rfl ?_
  clear hr
  try cbv
  exact join_next (n,b5) [0,1,4,23] [] 416 ⟨by omega,h⟩ (by cbv)
 clear h
 rintro⟨m1,b6⟩ ⟨hm1,h⟩
 replace hm1:m1≤n:=hm1
 obtain _ | m1:=m1
 ·replace h:L8_1 0 z1 l2 b6=some r1:=h
  rw[L8_1]at h
  cases h
 replace h:L8_1 (m1+1) z1 l2 b6=some r1:=h
 rw[L8_1]at h
 try cbv
 cases b6
 rotate_left
 ·replace h:=ite_t rfl h
  try cbv
  refine seq_go ?_
  try cbv
  obtain rfl:=Option.some.inj h
  refine fin_go ?_
  try cbv
  exact⟨[],rfl,rfl,trivial,trivial,trivial⟩
 replace h:=ite_f Bool.false_ne_true h
 try cbv
 refine seq_go ?_
 try cbv
 replace h:=bO0_inv h
 obtain⟨hr,h⟩:=h
 refine call_go rfl rfl ?_
 try cbv
 refine call_with hM hI [] (T43 _ hr) rfl (by simp) trivial trivial (by simp) ?_
 clear hr
 try cbv
 refine seq_go ?_
 try cbv
 replace h:=bO1_inv h
 obtain⟨pm7,hr,h⟩:=h
 refine call_go rfl rfl ?_
 try cbv
 refine call_with hM hI [.loc 416,.loc 417] (T37 _ hr) rfl (by simp) ⟨rfl,⟨rfl,trivial⟩⟩ ⟨trivial,⟨trivial,trivial⟩⟩ (by simp) ?_
 clear hr
 try cbv
 refine seq_go ?_
 try cbv
 refine seq_go ?_
 try cbv
 refine seq_go ?_
 try cbv
 refine loop_invG (T:=Nat×List D×List D×Int×List PRow) [.tokS 7 true 6 49,.tokS 6 true 6 49] [] [0,1,4,5,6,7,8] [.loc 416,.loc 417,.loc 704,.loc 672] 736 (fun t=>⟨[(0,.v (.d (.int .i64 z1))),(1,.v (.d (.list true 9 l2))),(4,.v (.d (.bool false))),(5,.v (.c (.ptr (.loc 416) 0))),(6,.v (.c (.lst (.loc 704) true 6 t.2.1))),(7,.v (.c (.lst (.loc 672) true 6 t.2.2.1))),(8,.v (.d (.int .i64 t.2.2.2.1)))],[(.loc 416,.cells [.ow (.loc 417)]),(.loc 417,.pmap 3 6 8 t.2.2.2.2 none),(.loc 704,.tok t.2.1.length 6 49),(.loc 672,.tok t.2.2.1.length 6 49)],736⟩)
   (fun t=>t.1≤m1∧L8_2 t.1 z1 l2 t.2.1 t.2.2.1 t.2.2.2.1 t.2.2.2.2=some r1) (fun t=>t.1) (m1,(([]:List D),([]:List D),(0:Int),pm7)) ⟨Nat.le_refl _,h⟩ (by cbv) ?_
 clear h
 rintro⟨m2,l8,l9,z10,pm11⟩ ⟨hm2,h⟩
 replace hm2:m2≤m1:=hm2
 obtain _ | m2:=m2
 ·replace h:L8_2 0 z1 l2 l8 l9 z10 pm11=some r1:=h
  rw[L8_2]at h
  cases h
 replace h:L8_2 (m2+1) z1 l2 l8 l9 z10 pm11=some r1:=h
 rw[L8_2]at h
 try cbv
 refine seq_go ?_
 try cbv
 refine seq_join (T:=Nat×Bool) (fun t=>⟨[(0,.v (.d (.int .i64 z1))),(1,.v (.d (.list true 9 l2))),(4,.v (.d (.bool false))),(5,.v (.c (.ptr (.loc 416) 0))),(6,.v (.c (.lst (.loc 704) true 6 l8))),(7,.v (.c (.lst (.loc 672) true 6 l9))),(8,.v (.d (.int .i64 z10))),(31,.v (.d (.bool t.2)))],[(.loc 416,.cells [.ow (.loc 417)]),(.loc 417,.pmap 3 6 8 pm11 none),(.loc 704,.tok l8.length 6 49),(.loc 672,.tok l9.length 6 49)],864⟩) (fun t=>t.1≤m2∧L8_3 t.1 z1 l2 l8 l9 z10 pm11 t.2=some r1) ?_ ?_
 ·try cbv
  replace h:=lenF_inv M h
  obtain⟨z12,hz,h⟩:=h
  refine⟨z12,hz,?_⟩
  clear hz
  try cbv
  refine splitL (fun e=>?_) (fun e=>?_)
  ·replace h:=ite_t e h
   clear e
   try cbv
   exact join_next (m2,true) [0,1,4,5,6,7,8,31] [.loc 416,.loc 417,.loc 704,.loc 672] 864 ⟨by omega,h⟩ (by cbv)
  replace h:=ite_f (Int.not_lt.2 e) h
  clear e
  try cbv
  exact join_next (m2,false) [0,1,4,5,6,7,8,31] [.loc 416,.loc 417,.loc 704,.loc 672] 864 ⟨by omega,h⟩ (by cbv)
 clear h
 rintro⟨m3,b13⟩ ⟨hm3,h⟩
 replace hm3:m3≤m2:=hm3
 obtain _ | m3:=m3
 ·replace h:L8_3 0 z1 l2 l8 l9 z10 pm11 b13=some r1:=h
  rw[L8_3]at h
  cases h
 replace h:L8_3 (m3+1) z1 l2 l8 l9 z10 pm11 b13=some r1:=h
 rw[L8_3]at h
 try cbv
 cases b13
 ·replace h:=ite_f Bool.false_ne_true h
  try cbv
  refine seq_go ?_
  try cbv
  refine seq_join (T:=Nat×Bool×(List PRow)) (fun t=>⟨[(4,.v (.d (.bool false))),(5,.v (.c (.ptr (.loc 416) 0))),(6,.v (.c (.lst (.loc 704) true 6 l8))),(7,.v (.c (.lst (.loc 672) true 6 l9))),(101,.v (.d (.bool t.2.1)))],[(.loc 416,.cells [.ow (.loc 417)]),(.loc 417,.pmap 3 6 8 t.2.2 none),(.loc 704,.tok l8.length 6 49),(.loc 672,.tok l9.length 6 49)],1504⟩) (fun t=>t.1≤m3∧L8_8 t.1 l8 l9 t.2.1 t.2.2=some r1) ?_ ?_
  ·try cbv
   replace h:=bO2_inv h
   obtain⟨b72,pm73,hr,h⟩:=h
   refine call_go rfl rfl ?_
   try cbv
   refine call_with hM hI [.loc 416,.loc 417] (T40 _ hr) rfl (by simp) ⟨rfl,⟨rfl,trivial⟩⟩ ⟨trivial,⟨trivial,trivial⟩⟩ (by simp) ?_
   clear hr
   try cbv
   replace h:=lenF_inv M h
   obtain⟨z74,hz,h⟩:=h
   refine⟨z74,hz,?_⟩
   clear hz
   try cbv
   replace h:=lenF_inv M h
   obtain⟨z75,hz,h⟩:=h
   refine⟨z75,hz,?_⟩
   clear hz
   try cbv
   replace h:=letF_inv h
   obtain⟨z76,hz,h⟩:=h
   refine⟨z76,hz,?_⟩
   clear hz
   try cbv
   refine splitI (fun e=>?_) (fun e=>?_)
   ·replace h:=ite_t e h
    clear e
    try cbv
    replace h:=letB_inv h
    obtain⟨b77,hz,h⟩:=h
    refine⟨b77,eqv_ne hz,?_⟩
    clear hz
    try cbv
    cases b77
    rotate_left
    ·replace h:=ite_t rfl h
     try cbv
     exact join_next (m3,(true,pm73)) [4,5,6,7,101] [.loc 416,.loc 417,.loc 704,.loc 672] 1504 ⟨by omega,h⟩ (by cbv)
    replace h:=ite_f Bool.false_ne_true h
    try cbv
    replace h:=bO2_inv h
    obtain⟨b78,pm79,hr,h⟩:=h
    refine call_go rfl rfl ?_
    try cbv
    refine call_with hM hI [.loc 416,.loc 417] (T41 _ hr) rfl (by simp) ⟨rfl,⟨rfl,trivial⟩⟩ ⟨trivial,⟨trivial,trivial⟩⟩ (by simp) ?_
    clear hr
    try cbv
    replace h:=lenF_inv M h
    obtain⟨z80,hz,h⟩:=h
    refine⟨z80,hz,?_⟩
    clear hz
    try cbv
    replace h:=lenF_inv M h
    obtain⟨z81,hz,h⟩:=h
    refine⟨z81,hz,?_⟩
    clear hz
    try cbv
    refine splitI (fun e=>?_) (fun e=>?_)
    ·replace h:=ite_t e h
     clear e
     try cbv
     replace h:=letB_inv h
     obtain⟨b82,hz,h⟩:=h
     refine⟨b82,eqv_ne hz,?_⟩
     clear hz
     try cbv
     exact join_next (m3,(b82,pm79)) [4,5,6,7,101] [.loc 416,.loc 417,.loc 704,.loc 672] 1504 ⟨by omega,h⟩ (by cbv)
    replace h:=ite_f e h
    clear e
    try cbv
    replace h:=letB_inv h
    obtain⟨b83,hz,h⟩:=h
    refine⟨b83,eqv_ne hz,?_⟩
    clear hz
    try cbv
    exact join_next (m3,(b83,pm79)) [4,5,6,7,101] [.loc 416,.loc 417,.loc 704,.loc 672] 1504 ⟨by omega,h⟩ (by cbv)
   replace h:=ite_f e h
   clear e
   try cbv
   replace h:=letB_inv h
   obtain⟨b84,hz,h⟩:=h
   refine⟨b84,eqv_ne hz,?_⟩
   clear hz
   try cbv
   cases b84
   rotate_left
   ·replace h:=ite_t rfl h
    try cbv
    exact join_next (m3,(true,pm73)) [4,5,6,7,101] [.loc 416,.loc 417,.loc 704,.loc 672] 1504 ⟨by omega,h⟩ (by cbv)
   replace h:=ite_f Bool.false_ne_true h
   try cbv
   replace h:=bO2_inv h
   obtain⟨b85,pm86,hr,h⟩:=h
   refine call_go rfl rfl ?_
   try cbv
   refine call_with hM hI [.loc 416,.loc 417] (T41 _ hr) rfl (by simp) ⟨rfl,⟨rfl,trivial⟩⟩ ⟨trivial,⟨trivial,trivial⟩⟩ (by simp) ?_
   clear hr
   try cbv
   replace h:=lenF_inv M h
   obtain⟨z87,hz,h⟩:=h
   refine⟨z87,hz,?_⟩
   clear hz
   try cbv
   replace h:=lenF_inv M h
   obtain⟨z88,hz,h⟩:=h
   refine⟨z88,hz,?_⟩
   clear hz
   try cbv
   refine splitI (fun e=>?_) (fun e=>?_)
   ·replace h:=ite_t e h
    clear e
    try cbv
    replace h:=letB_inv h
    obtain⟨b89,hz,h⟩:=h
    refine⟨b89,eqv_ne hz,?_⟩
    clear hz
    try cbv
    exact join_next (m3,(b89,pm86)) [4,5,6,7,101] [.loc 416,.loc 417,.loc 704,.loc 672] 1504 ⟨by omega,h⟩ (by cbv)
   replace h:=ite_f e h
   clear e
   try cbv
   replace h:=letB_inv h
   obtain⟨b90,hz,h⟩:=h
   refine⟨b90,eqv_ne hz,?_⟩
   clear hz
   try cbv
   exact join_next (m3,(b90,pm86)) [4,5,6,7,101] [.loc 416,.loc 417,.loc 704,.loc 672] 1504 ⟨by omega,h⟩ (by cbv)
  clear h
  rintro⟨m8,b91,pm92⟩ ⟨hm8,h⟩
  replace hm8:m8≤m3:=hm8
  obtain _ | m8:=m8
  ·replace h:L8_8 0 l8 l9 b91 pm92=some r1:=h
   rw[L8_8]at h
   cases h
  replace h:L8_8 (m8+1) l8 l9 b91 pm92=some r1:=h
  rw[L8_8]at h
  try cbv
  cases b91
  rotate_left
  ·replace h:=ite_t rfl h
   try cbv
   refine seq_go ?_
   try cbv
   obtain rfl:=Option.some.inj h
   refine fin_go ?_
   try cbv
   exact⟨[],rfl,rfl,trivial,trivial,trivial⟩
  replace h:=ite_f Bool.false_ne_true h
  try cbv
  refine seq_join (T:=Nat×List D×(List PRow)) (fun t=>⟨[(4,.v (.d (.bool false))),(5,.v (.c (.ptr (.loc 416) 0))),(6,.v (.c (.lst (.loc 704) true 6 l8))),(7,.v (.c (.lst (.loc 672) true 6 t.2.1)))],[(.loc 416,.cells [.ow (.loc 417)]),(.loc 417,.pmap 3 6 8 t.2.2 none),(.loc 704,.tok l8.length 6 49),(.loc 672,.tok t.2.1.length 6 49)],1664⟩) (fun t=>t.1≤m8∧L8_9 t.1 l8 t.2.1 t.2.2=some r1) ?_ ?_
  ·try cbv
   replace h:=bS_inv h
   rcases h with⟨p98,hr,h⟩ | ⟨pm96,hr,h⟩
   ·replace h:=bO2_inv h
    obtain⟨pm93,l94,hp,h⟩:=h
    obtain rfl:=Option.some.inj hp
    clear hp
    refine call_go rfl rfl ?_
    try cbv
    refine call_with hM hI [.loc 416,.loc 417] (T42 _ hr (fun r p n=>r= .v (.c (.ow (.loc 0)))∧p=[.cells [.ow (.ext 1)],.pmap 3 6 8 pm93 none]∧n=[.tree .flat true 6 l94 none]) ⟨rfl,rfl,rfl⟩:Trip _ _ _ _ _ (.v (.c (.ow (.loc 0)))) [.cells [.ow (.ext 1)],.pmap 3 6 8 pm93 none] [.tree .flat true 6 l94 none]) rfl (by simp) ⟨rfl,⟨rfl,trivial⟩⟩ ⟨trivial,⟨trivial,trivial⟩⟩ (by simp) ?_
    clear hr
    try cbv
    refine op_gs [.freeze (.loc 1568)] ?_
    try cbv
    first | refine⟨(rfl:(_:Nat)=_),?_⟩ | refine⟨True.intro,?_⟩ | skip
    try cbv
    replace h:=appF_inv h
    obtain⟨l95,hb,hz,h⟩:=h
    refine⟨false,?_⟩
    try cbv
    first | refine⟨rfl,(M.lock_iff _).2 hb,l95,hz,?_⟩ | refine⟨(M.lock_iff _).2 hb,l95,hz,?_⟩
    clear hb hz
    try cbv
    exact join_next (m8,(l95,pm93)) [4,5,6,7] [.loc 416,.loc 417,.loc 704,.loc 672] 1664 ⟨by omega,h⟩ (by cbv)
   refine call_go rfl rfl ?_
   try cbv
   refine call_with hM hI [.loc 416,.loc 417] (T42 _ hr (fun r p n=>r= .v (.c (.ow (.loc 0)))∧p=[.cells [.ow (.ext 1)],.pmap 3 6 8 pm96 none]∧n=[.tree .row true 6 [] none]) ⟨rfl,rfl,rfl⟩:Trip _ _ _ _ _ (.v (.c (.ow (.loc 0)))) [.cells [.ow (.ext 1)],.pmap 3 6 8 pm96 none] [.tree .row true 6 [] none]) rfl (by simp) ⟨rfl,⟨rfl,trivial⟩⟩ ⟨trivial,⟨trivial,trivial⟩⟩ (by simp) ?_
   clear hr
   try cbv
   refine op_gs [.freeze (.loc 1568)] ?_
   try cbv
   first | refine⟨(rfl:(_:Nat)=_),?_⟩ | refine⟨True.intro,?_⟩ | skip
   try cbv
   replace h:=appF_inv h
   obtain⟨l97,hb,hz,h⟩:=h
   refine⟨false,?_⟩
   try cbv
   first | refine⟨rfl,(M.lock_iff _).2 hb,l97,hz,?_⟩ | refine⟨(M.lock_iff _).2 hb,l97,hz,?_⟩
   clear hb hz
   try cbv
   exact join_next (m8,(l97,pm96)) [4,5,6,7] [.loc 416,.loc 417,.loc 704,.loc 672] 1664 ⟨by omega,h⟩ (by cbv)
  clear h
  rintro⟨m9,l100,pm101⟩ ⟨hm9,h⟩
  replace hm9:m9≤m8:=hm9
  obtain _ | m9:=m9
  ·replace h:L8_9 0 l8 l100 pm101=some r1:=h
   rw[L8_9]at h
   cases h
  replace h:L8_9 (m9+1) l8 l100 pm101=some r1:=h
  rw[L8_9]at h
  try cbv
  refine seq_go ?_
  try cbv
  replace h:=bO1_inv h
  obtain⟨b102,hr,h⟩:=h
  refine call_go rfl rfl ?_
  try cbv
  refine call_pure hM hI (T48 _ hr) rfl ?_
  clear hr
  try cbv
  cases b102
  ·replace h:=ite_f Bool.false_ne_true h
   try cbv
   obtain rfl:=Option.some.inj h
   refine fin_go ?_
   try cbv
   exact⟨[],rfl,rfl,trivial,trivial,trivial⟩
  replace h:=ite_t rfl h
  try cbv
  replace h:=bO2_inv h
  obtain⟨b103,pm104,hr,h⟩:=h
  refine call_go rfl rfl ?_
  try cbv
  refine call_with hM hI [.loc 416,.loc 417] (T40 _ hr) rfl (by simp) ⟨rfl,⟨rfl,trivial⟩⟩ ⟨trivial,⟨trivial,trivial⟩⟩ (by simp) ?_
  clear hr
  try cbv
  cases b103
  ·replace h:=ite_f Bool.false_ne_true h
   try cbv
   obtain rfl:=Option.some.inj h
   refine fin_go ?_
   try cbv
   exact⟨[],rfl,rfl,trivial,trivial,trivial⟩
  replace h:=ite_t rfl h
  try cbv
  replace h:=bO2_inv h
  obtain⟨b105,pm106,hr,h⟩:=h
  refine call_go rfl rfl ?_
  try cbv
  refine call_with hM hI [.loc 416,.loc 417] (T41 _ hr) rfl (by simp) ⟨rfl,⟨rfl,trivial⟩⟩ ⟨trivial,⟨trivial,trivial⟩⟩ (by simp) ?_
  clear hr
  try cbv
  obtain rfl:=Option.some.inj h
  refine fin_go ?_
  try cbv
  exact⟨[],rfl,rfl,trivial,trivial,trivial⟩
 replace h:=ite_t rfl h
 try cbv
 refine seq_join (T:=Nat×List D×List D×(List PRow)) (fun t=>⟨[(0,.v (.d (.int .i64 z1))),(1,.v (.d (.list true 9 l2))),(4,.v (.d (.bool false))),(5,.v (.c (.ptr (.loc 416) 0))),(6,.v (.c (.lst (.loc 704) true 6 t.2.1))),(7,.v (.c (.lst (.loc 672) true 6 t.2.2.1))),(8,.v (.d (.int .i64 z10)))],[(.loc 416,.cells [.ow (.loc 417)]),(.loc 417,.pmap 3 6 8 t.2.2.2 none),(.loc 704,.tok t.2.1.length 6 49),(.loc 672,.tok t.2.2.1.length 6 49)],1920⟩) (fun t=>t.1≤m3∧L8_7 t.1 z1 l2 z10 t.2.1 t.2.2.1 t.2.2.2=some r1) ?_ ?_
 rotate_left
 ·clear h
  rintro⟨m7,l68,l69,pm70⟩ ⟨hm7,h⟩
  replace hm7:m7≤m3:=hm7
  obtain _ | m7:=m7
  ·replace h:L8_7 0 z1 l2 z10 l68 l69 pm70=some r1:=h
   rw[L8_7]at h
   cases h
  replace h:L8_7 (m7+1) z1 l2 z10 l68 l69 pm70=some r1:=h
  rw[L8_7]at h
  try cbv
  replace h:=letF_inv h
  obtain⟨z71,hz,h⟩:=h
  refine⟨z71,hz,?_⟩
  clear hz
  try cbv
  refine loop_nextG (m7,(l68,l69,z71,pm70)) [] [] [0,1,4,5,6,7,8] [.loc 416,.loc 417,.loc 704,.loc 672] 736 ⟨by omega,h⟩ (Nat.lt_succ_of_le (by omega)) ?_
  try cbv
 try cbv
 refine seq_go ?_
 try cbv
 refine seq_join (T:=Nat×Bool) (fun t=>⟨[(0,.v (.d (.int .i64 z1))),(1,.v (.d (.list true 9 l2))),(4,.v (.d (.bool false))),(5,.v (.c (.ptr (.loc 416) 0))),(6,.v (.c (.lst (.loc 704) true 6 l8))),(7,.v (.c (.lst (.loc 672) true 6 l9))),(8,.v (.d (.int .i64 z10))),(39,.v (.d (.bool t.2)))],[(.loc 416,.cells [.ow (.loc 417)]),(.loc 417,.pmap 3 6 8 pm11 none),(.loc 704,.tok l8.length 6 49),(.loc 672,.tok l9.length 6 49)],1056⟩) (fun t=>t.1≤m3∧L8_4 t.1 z1 l2 l8 l9 z10 pm11 t.2=some r1) ?_ ?_
 ·try cbv
  replace h:=getF_inv h
  obtain⟨x14,⟨hx0,hx⟩,h⟩:=h
  refine⟨x14,hx0,hx,?_⟩
  clear hx0 hx
  replace h:=ds_t61_inv h
  obtain⟨z15,z16,z17,z18,z19,s20,l21,z22,l23,rfl,h⟩:=h
  try cbv
  refine splitLe (fun e=>?_) (fun e=>?_)
  ·replace h:=ite_t e h
   clear e
   try cbv
   exact join_next (m3,true) [0,1,4,5,6,7,8,39] [.loc 416,.loc 417,.loc 704,.loc 672] 1056 ⟨by omega,h⟩ (by cbv)
  replace h:=ite_f (Int.not_le.2 e) h
  clear e
  try cbv
  exact join_next (m3,false) [0,1,4,5,6,7,8,39] [.loc 416,.loc 417,.loc 704,.loc 672] 1056 ⟨by omega,h⟩ (by cbv)
 clear h
 rintro⟨m4,b24⟩ ⟨hm4,h⟩
 replace hm4:m4≤m3:=hm4
 obtain _ | m4:=m4
 ·replace h:L8_4 0 z1 l2 l8 l9 z10 pm11 b24=some r1:=h
  rw[L8_4]at h
  cases h
 replace h:L8_4 (m4+1) z1 l2 l8 l9 z10 pm11 b24=some r1:=h
 rw[L8_4]at h
 try cbv
 cases b24
 rotate_left
 ·replace h:=ite_t rfl h
  try cbv
  refine seq_go ?_
  try cbv
  replace h:=bO8_inv h
  obtain⟨z25,z26,s27,l28,z29,l30,b31,pm32,hr,h⟩:=h
  refine call_go rfl rfl ?_
  try cbv
  refine call_with hM hI [.loc 416,.loc 417] (T38 _ hr) rfl (by simp) ⟨rfl,⟨rfl,trivial⟩⟩ ⟨trivial,⟨trivial,trivial⟩⟩ (by simp) ?_
  clear hr
  try cbv
  refine seq_go ?_
  try cbv
  refine seq_join (T:=Nat×Bool) (fun t=>⟨[(0,.v (.d (.int .i64 z1))),(1,.v (.d (.list true 9 l2))),(4,.v (.d (.bool false))),(5,.v (.c (.ptr (.loc 416) 0))),(6,.v (.c (.lst (.loc 704) true 6 l8))),(7,.v (.c (.lst (.loc 672) true 6 l9))),(8,.v (.d (.int .i64 z10))),(9,.v (.c (.ptr (.loc 1216) 0))),(10,.v (.d (.bool b31))),(51,.v (.d (.bool t.2)))],[(.loc 416,.cells [.ow (.loc 417)]),(.loc 417,.pmap 3 6 8 pm32 none),(.loc 704,.tok l8.length 6 49),(.loc 672,.tok l9.length 6 49),(.loc 1216,.cells [.d (.int .u8 z25),.d (.int .i64 z26),.d (.str s27),.d (.list true 6 l28),.d (.int .i64 z29),.d (.list false 1 l30)])],1536⟩) (fun t=>t.1≤m4∧L8_5 t.1 z1 l2 l8 l9 z10 z25 z26 s27 l28 z29 l30 b31 pm32 t.2=some r1) ?_ ?_
  ·try cbv
   replace h:=lenF_inv M h
   obtain⟨z33,hz,h⟩:=h
   refine⟨z33,hz,?_⟩
   clear hz
   try cbv
   replace h:=lenF_inv M h
   obtain⟨z34,hz,h⟩:=h
   refine⟨z34,hz,?_⟩
   clear hz
   try cbv
   refine splitL (fun e=>?_) (fun e=>?_)
   ·replace h:=ite_t e h
    clear e
    try cbv
    replace h:=letB_inv h
    obtain⟨b35,hz,h⟩:=h
    refine⟨b35,eqv_ne hz,?_⟩
    clear hz
    try cbv
    exact join_next (m4,b35) [0,1,4,5,6,7,8,9,10,51] [.loc 416,.loc 417,.loc 704,.loc 672,.loc 1216] 1536 ⟨by omega,h⟩ (by cbv)
   replace h:=ite_f (Int.not_lt.2 e) h
   clear e
   try cbv
   replace h:=letB_inv h
   obtain⟨b36,hz,h⟩:=h
   refine⟨b36,eqv_ne hz,?_⟩
   clear hz
   try cbv
   exact join_next (m4,b36) [0,1,4,5,6,7,8,9,10,51] [.loc 416,.loc 417,.loc 704,.loc 672,.loc 1216] 1536 ⟨by omega,h⟩ (by cbv)
  clear h
  rintro⟨m5,b37⟩ ⟨hm5,h⟩
  replace hm5:m5≤m4:=hm5
  obtain _ | m5:=m5
  ·replace h:L8_5 0 z1 l2 l8 l9 z10 z25 z26 s27 l28 z29 l30 b31 pm32 b37=some r1:=h
   rw[L8_5]at h
   cases h
  replace h:L8_5 (m5+1) z1 l2 l8 l9 z10 z25 z26 s27 l28 z29 l30 b31 pm32 b37=some r1:=h
  rw[L8_5]at h
  try cbv
  cases b37
  rotate_left
  ·replace h:=ite_t rfl h
   try cbv
   refine seq_go ?_
   try cbv
   obtain rfl:=Option.some.inj h
   refine fin_go ?_
   try cbv
   exact⟨[],rfl,rfl,trivial,trivial,trivial⟩
  replace h:=ite_f Bool.false_ne_true h
  try cbv
  refine seq_go ?_
  try cbv
  refine seq_go ?_
  try cbv
  cases b31
  ·replace h:=ite_f Bool.false_ne_true h
   try cbv
   exact join_next (m5,(l8,l9,pm32)) [0,1,4,5,6,7,8] [.loc 416,.loc 417,.loc 704,.loc 672] 1920 ⟨by omega,h⟩ (by cbv)
  replace h:=ite_t rfl h
  try cbv
  refine⟨false,?_⟩
  try cbv
  refine⟨true,?_⟩
  try cbv
  replace h:=appF_inv h
  obtain⟨l38,hb,hz,h⟩:=h
  refine⟨false,?_⟩
  try cbv
  first | refine⟨rfl,(M.lock_iff _).2 hb,l38,hz,?_⟩ | refine⟨(M.lock_iff _).2 hb,l38,hz,?_⟩
  clear hb hz
  try cbv
  exact join_next (m5,(l8,l38,pm32)) [0,1,4,5,6,7,8] [.loc 416,.loc 417,.loc 704,.loc 672] 1920 ⟨by omega,h⟩ (by cbv)
 replace h:=ite_f Bool.false_ne_true h
 try cbv
 refine seq_go ?_
 try cbv
 replace h:=getF_inv h
 obtain⟨x39,⟨hx0,hx⟩,h⟩:=h
 refine⟨x39,hx0,hx,?_⟩
 clear hx0 hx
 replace h:=ds_t61_inv h
 obtain⟨z40,z41,z42,z43,z44,s45,l46,z47,l48,rfl,h⟩:=h
 try cbv
 replace h:=bO2_inv h
 obtain⟨b49,pm50,hr,h⟩:=h
 refine call_go rfl rfl ?_
 try cbv
 refine call_with hM hI [.loc 416,.loc 417] (T39 _ hr) rfl (by simp) ⟨rfl,⟨rfl,trivial⟩⟩ ⟨trivial,⟨trivial,trivial⟩⟩ (by simp) ?_
 clear hr
 try cbv
 refine seq_go ?_
 try cbv
 refine seq_join (T:=Nat×Bool) (fun t=>⟨[(0,.v (.d (.int .i64 z1))),(1,.v (.d (.list true 9 l2))),(4,.v (.d (.bool false))),(5,.v (.c (.ptr (.loc 416) 0))),(6,.v (.c (.lst (.loc 704) true 6 l8))),(7,.v (.c (.lst (.loc 672) true 6 l9))),(8,.v (.d (.int .i64 z10))),(11,.v (.d (.bool b49))),(72,.v (.d (.bool t.2)))],[(.loc 416,.cells [.ow (.loc 417)]),(.loc 417,.pmap 3 6 8 pm50 none),(.loc 704,.tok l8.length 6 49),(.loc 672,.tok l9.length 6 49)],1600⟩) (fun t=>t.1≤m4∧L8_6 t.1 z1 l2 l8 l9 z10 b49 pm50 t.2=some r1) ?_ ?_
 ·try cbv
  replace h:=lenF_inv M h
  obtain⟨z51,hz,h⟩:=h
  refine⟨z51,hz,?_⟩
  clear hz
  try cbv
  replace h:=lenF_inv M h
  obtain⟨z52,hz,h⟩:=h
  refine⟨z52,hz,?_⟩
  clear hz
  try cbv
  replace h:=letF_inv h
  obtain⟨z53,hz,h⟩:=h
  refine⟨z53,hz,?_⟩
  clear hz
  try cbv
  refine splitL (fun e=>?_) (fun e=>?_)
  ·replace h:=ite_t e h
   clear e
   try cbv
   replace h:=letB_inv h
   obtain⟨b54,hz,h⟩:=h
   refine⟨b54,eqv_ne hz,?_⟩
   clear hz
   try cbv
   exact join_next (m4,b54) [0,1,4,5,6,7,8,11,72] [.loc 416,.loc 417,.loc 704,.loc 672] 1600 ⟨by omega,h⟩ (by cbv)
  replace h:=ite_f (Int.not_lt.2 e) h
  clear e
  try cbv
  replace h:=letB_inv h
  obtain⟨b55,hz,h⟩:=h
  refine⟨b55,eqv_ne hz,?_⟩
  clear hz
  try cbv
  exact join_next (m4,b55) [0,1,4,5,6,7,8,11,72] [.loc 416,.loc 417,.loc 704,.loc 672] 1600 ⟨by omega,h⟩ (by cbv)
 clear h
 rintro⟨m6,b56⟩ ⟨hm6,h⟩
 replace hm6:m6≤m4:=hm6
 obtain _ | m6:=m6
 ·replace h:L8_6 0 z1 l2 l8 l9 z10 b49 pm50 b56=some r1:=h
  rw[L8_6]at h
  cases h
 replace h:L8_6 (m6+1) z1 l2 l8 l9 z10 b49 pm50 b56=some r1:=h
 rw[L8_6]at h
 try cbv
 cases b56
 rotate_left
 ·replace h:=ite_t rfl h
  try cbv
  refine seq_go ?_
  try cbv
  obtain rfl:=Option.some.inj h
  refine fin_go ?_
  try cbv
  exact⟨[],rfl,rfl,trivial,trivial,trivial⟩
 replace h:=ite_f Bool.false_ne_true h
 try cbv
 refine seq_go ?_
 try cbv
 cases b49
 ·replace h:=ite_f Bool.false_ne_true h
  try cbv
  exact join_next (m6,(l8,l9,pm50)) [0,1,4,5,6,7,8] [.loc 416,.loc 417,.loc 704,.loc 672] 1920 ⟨by omega,h⟩ (by cbv)
 replace h:=ite_t rfl h
 try cbv
 replace h:=getF_inv h
 obtain⟨x57,⟨hx0,hx⟩,h⟩:=h
 refine⟨x57,hx0,hx,?_⟩
 clear hx0 hx
 replace h:=ds_t61_inv h
 obtain⟨z58,z59,z60,z61,z62,s63,l64,z65,l66,rfl,h⟩:=h
 try cbv
 refine⟨false,?_⟩
 try cbv
 refine⟨true,?_⟩
 try cbv
 replace h:=appF_inv h
 obtain⟨l67,hb,hz,h⟩:=h
 refine⟨false,?_⟩
 try cbv
 first | refine⟨rfl,(M.lock_iff _).2 hb,l67,hz,?_⟩ | refine⟨(M.lock_iff _).2 hb,l67,hz,?_⟩
 clear hb hz
 try cbv
 exact join_next (m6,(l67,l9,pm50)) [0,1,4,5,6,7,8] [.loc 416,.loc 417,.loc 704,.loc 672] 1920 ⟨by omega,h⟩ (by cbv)
end Go.Proofs.Ytiiojajgajnhpaa
end
set_option linter.unusedVariables false
noncomputable section
namespace Go.Proofs.Ytiiojajgajnhpaa
open Go Go.AM
theorem rs61 {x:D}(h:RowS tab 61 x):∃a0 a1 a2 a3 a4 a5 a6 a7 a8,x= .agg [.int .i64 a0,.int .i64 a1,.int .i64 a2,.int .u8 a3,.int .i64 a4,.str a5,.list true 6 a6,.int .i64 a7,.list false 1 a8]∧(Lit.int .i64 a0).wf=true∧(Lit.int .i64 a1).wf=true∧(Lit.int .i64 a2).wf=true∧(Lit.int .u8 a3).wf=true∧(Lit.int .i64 a4).wf=true∧a5.size≤maxLen∧ListS tab 49 a6∧(Lit.int .i64 a7).wf=true∧ListS tab 3 a8:=by
 obtain⟨cs,rfl,hs⟩:=h.agg (y:=tyD tab 61) (by kernel_rfl) rfl
 have hl:=hs.flat 9 61 [3,3,3,5,2,9,46,3,47] cs (by kernel_rfl)
 obtain⟨b0,b1,b2,b3,b4,b5,b6,b7,b8,rfl⟩:=llen9 hl.1
 obtain⟨a0,rfl,w0⟩:=(hl.2 0 b0 3 rfl rfl).intS (x:=tyD tab 3) (by kernel_rfl) rfl
 obtain⟨a1,rfl,w1⟩:=(hl.2 1 b1 3 rfl rfl).intS (x:=tyD tab 3) (by kernel_rfl) rfl
 obtain⟨a2,rfl,w2⟩:=(hl.2 2 b2 3 rfl rfl).intS (x:=tyD tab 3) (by kernel_rfl) rfl
 obtain⟨a3,rfl,w3⟩:=(hl.2 3 b3 5 rfl rfl).intS (x:=tyD tab 5) (by kernel_rfl) rfl
 obtain⟨a4,rfl,w4⟩:=(hl.2 4 b4 2 rfl rfl).intS (x:=tyD tab 2) (by kernel_rfl) rfl
 obtain⟨a5,rfl,w5⟩:=(hl.2 5 b5 9 rfl rfl).strS (x:=tyD tab 9) (by kernel_rfl) rfl
 obtain⟨a6,e6,w6⟩:=(hl.2 6 b6 46 rfl rfl).listS (x:=tyD tab 46) (y:=tyD tab 49) (by kernel_rfl) rfl (by kernel_rfl)
 obtain rfl:b6= .list true 6 a6:=e6
 obtain⟨a7,rfl,w7⟩:=(hl.2 7 b7 3 rfl rfl).intS (x:=tyD tab 3) (by kernel_rfl) rfl
 obtain⟨a8,e8,w8⟩:=(hl.2 8 b8 47 rfl rfl).listS (x:=tyD tab 47) (y:=tyD tab 3) (by kernel_rfl) rfl (by kernel_rfl)
 obtain rfl:b8= .list false 1 a8:=e8
 exact⟨_,_,_,_,_,_,_,_,_,rfl,w0,w1,w2,w3,w4,w5,w6,w7,w8⟩
theorem rs63 {x:D}(h:RowS tab 63 x):∃a0,x= .list true 9 a0∧ListS tab 61 a0:=by
 have hs:=h.flat1 (y:=tyD tab 63) (by kernel_rfl) rfl
 have hl:=hs.flat 9 63 [63] [x] (by kernel_rfl)
 obtain⟨a0,e0,w0⟩:=(hl.2 0 x 63 rfl rfl).listS (x:=tyD tab 63) (y:=tyD tab 61) (by kernel_rfl) rfl (by kernel_rfl)
 obtain rfl:x= .list true 9 a0:=e0
 exact⟨_,rfl,w0⟩
structure QA where
 kd:Int
 id:Int
 rm:Int
 v:VV
def QA.row (a:QA):D:=.agg [.int .i64 a.kd,.int .i64 a.id,.int .i64 a.rm,.int .u8 a.v.k,.int .i64 a.v.i,.str a.v.nm,.list true 6 a.v.fs,.int .i64 a.v.id,.list false 1 a.v.pt]
theorem actQ {x:D}(h:RowS tab 61 x):∃a:QA,x=a.row∧VT a.v:=by
 obtain⟨a0,a1,a2,a3,a4,a5,a6,a7,a8,rfl,w0,w1,w2,w3,w4,w5,w6,w7,w8⟩:=rs61 h
 exact⟨⟨a0,a1,a2,⟨a3,a4,a5,a6,a7,a8⟩⟩,rfl,⟨w3,w4,w5,w6,w7,w8⟩⟩
theorem dsq {γ:Type}(a:QA) (k:Int→Int→Int→Int→Int→ByteArray→List D→Int→List D→Option γ):ds_t61 a.row k=k a.kd a.id a.rm a.v.k a.v.i a.v.nm a.v.fs a.v.id a.v.pt:=rfl
theorem qrow_inj {a b:QA}(h:a.row=b.row):a.v=b.v:=by
 obtain⟨k,i,q,v⟩:=a
 obtain⟨k',i',q',v'⟩:=b
 unfold QA.row at h
 simp only[D.agg.injEq,List.cons.injEq,D.int.injEq,D.list.injEq,D.str.injEq,true_and,and_true]at h
 obtain⟨h1,h2,h3,h4,h5,h6,h7,h8,h9⟩:=h
 obtain⟨a,b,c,d,e,f⟩:=v
 obtain⟨a',b',c',d',e',f'⟩:=v'
 simp only at h4 h5 h6 h7 h8 h9
 subst h4 h5 h6 h7 h8 h9
 rfl
theorem one_sm {v:VV}(h:Sm [v.row]):v.pt.length≤10000∧Sm v.fs:=⟨h.pt (by simp),h.fs (by simp)⟩
theorem great {l:List D}(h:ListS tab 61 l):∃b,Ev (fun n=>F36 n l) b∧(b=false→l.length≤100∧∀(j:Nat) (a:QA),l[j]?=some a.row→VS a.v):=by
 unfold F36
 by_cases c:(100:Int)<(l.length:Int)
 ·refine⟨true,?_,fun h=>by cases h⟩
  simp only[lenF,if_pos c]
  exact .succ (by simp only[L36_1,if_true];exact .ret)
 have loop:∀i:Nat,i≤l.length→∀z:Int,-1≤z→z≤10000→∃b,Ev (fun n=>L36_2 n l z (i:Int)) b∧(b=false→0≤z∧∀j:Nat,i≤j→∀a:QA,l[j]?=some a.row→VS a.v):=by
  refine down _ ?_ (fun i hi ih=>?_)
  ·intro z h1 h2
   refine⟨decide (z<0),.succ ?_,fun hb=>⟨by simpa using hb,fun j hj a ha=>absurd ((List.getElem?_eq_some_iff.1 ha).1) (by omega)⟩⟩
   simp only[L36_2,lenF,Int.lt_irrefl,if_false]
   refine .succ ?_
   simp only[L36_3,Bool.false_eq_true,if_false]
   by_cases c:z<0
   ·simp only[if_pos c,decide_eq_true c];exact .ret
   ·simp only[if_neg c,decide_eq_false c];exact .ret
  ·intro z h1 h2
   obtain⟨x,hx,_,hr⟩:=h.get hi
   obtain⟨a,rfl,ha⟩:=actQ hr
   obtain⟨r,k1,k2,k3,k4⟩:=ev24 [a.v.row] (.one ha.rowS) z h1 h2
   obtain⟨b,b1,b2⟩:=ih r k2 (by omega)
   refine⟨b,.succ ?_,fun hb=>?_⟩
   ·simp only[L36_2,lenF,if_pos (ilt hi)]
    refine .succ ?_
    simp only[L36_3,if_true,getF_nat hx,dsq]
    refine Ev.bO1 k1 ?_
    simp only[letF,wrap_succ hi h.1]
    exact b1
   ·obtain⟨q1,q2⟩:=b2 hb
    refine⟨by omega,fun j hj b' hb'=>?_⟩
    by_cases e:j=i
    ·subst e
     rw[hx]at hb'
     have:=qrow_inj (Option.some.inj hb')
     obtain⟨s1,s2⟩:=one_sm (k4 q1).1
     rw[←this]
     exact⟨ha,s1,s2⟩
    ·exact q2 j (by omega) b' hb'
 obtain⟨b,b1,b2⟩:=loop 0 (Nat.zero_le _) 10000 (by omega) (by omega)
 refine⟨b,?_,fun hb=>⟨by omega,fun j a ha=>(b2 hb).2 j (Nat.zero_le _) a ha⟩⟩
 simp only[lenF,if_neg c]
 exact .succ (by simp only[L36_1,Bool.false_eq_true,if_false];exact b1)
abbrev R (l:List VV):List D:=l.map VV.row
theorem listR {l:List VV}(h:∀v∈l,VS v) (hl:l.length≤1000):ListS tab 49 (R l):=by
 have hM:1000<maxLen:=by decide
 refine⟨by simp;omega,fun y hy=>?_⟩
 obtain⟨v,hv,rfl⟩:=List.mem_map.1 hy
 exact (h v hv).t.rowS
theorem sameR {l:List VV}(h:∀v∈l,VS v) (hl:l.length≤1000):Ev (fun n=>F48 n (R l) (R l)) true:=by
 have:=sameL (R l) (R l) (listR h hl) (listR h hl)
 simpa using this
theorem app_ok {γ:Type}{l:List VV}{m:List VV}(h:l.length+m.length≤1000) (k:List D→Option γ):appF 88 (R l) (R m) k=k (R (l++m)):=by
 have hM:1000<maxLen:=by decide
 rw[appF_ok (by simp only[List.length_map];omega),←List.map_append]
theorem app1_ok {γ:Type}{l:List VV}{v:VV}(h:l.length≤900) (k:List D→Option γ):appF 88 (R l) [.agg [.int .u8 v.k,.int .i64 v.i,.str v.nm,.list true 6 v.fs,.int .i64 v.id,.list false 1 v.pt]] k=k (R (l++[v])):=app_ok (m:=[v]) (by simp;omega) k
theorem order_end {z1:Int}{inn out q:List VV}(hin:inn=out++q) (hv:∀v∈inn,VS v) (hl:inn.length≤100) {pm:List PRow}(h:QOK pm [⟨7,z1,q⟩]):Ev (fun n=>L8_8 n (R inn) (R out) false pm) true:=by
 obtain⟨p2,e2,k2⟩:=evDropS h (z:=7) (c:=⟨7,z1,q⟩) (by simp[getC])
 rw[show delC 7 [(⟨7,z1,q⟩:Ch)]=[]by simp[delC]]at k2
 obtain⟨p3,e3,k3⟩:=evFu k2 7 (b:=true) (by simp[fullC,getC])
 obtain⟨p4,e4,k4⟩:=evEm k3 7 (b:=true) (by simp[emptyC,getC])
 have hlen:inn.length=out.length+q.length:=by rw[hin,List.length_append]
 refine .succ ?_
 simp only[L8_8,Bool.false_eq_true,if_false]
 refine Ev.bSl e2 ?_
 show Ev (fun n=>appF 88 (R out) (R q) fun l95=>L8_9 n (R inn) l95 p2) true
 simp only[app_ok (show out.length+q.length≤1000 by omega),←hin]
 refine .succ ?_
 simp only[L8_9]
 refine Ev.bO1 (sameR hv (by omega)) ?_
 simp only[if_true]
 refine Ev.bO2 e3 ?_
 simp only[if_true]
 exact Ev.bO2 e4 .ret
theorem order_loop {z1:Int}(h1:1≤z1) (h8:z1≤8) {l:List D}(hl:ListS tab 61 l) (hn:l.length≤100) (hvs:∀(j:Nat) (a:QA),l[j]?=some a.row→VS a.v):
  ∀i:Nat,i≤l.length→∀(inn out q:List VV) (pm:List PRow),inn=out++q→(∀v∈inn,VS v)→inn.length≤i→QOK pm [⟨7,z1,q⟩]→Ev (fun n=>L8_2 n z1 l (R inn) (R out) (i:Int) pm) true:=by
 refine down l.length ?_ ?_
 ·intro inn out q pm hin hv hle h
  have hlen:inn.length=out.length+q.length:=by rw[hin,List.length_append]
  refine .succ ?_
  simp only[L8_2,lenF,Int.lt_irrefl,if_false]
  refine .succ ?_
  simp only[L8_3,Bool.false_eq_true,if_false]
  obtain⟨p2,e2,k2⟩:=evFull h 7
  obtain⟨p3,e3,k3⟩:=evEmpty k2 7
  refine Ev.bO2 e2 ?_
  have hz:IntKind.wrap .i64 (((R inn).length:Int) - ((R out).length:Int))=(q.length:Int):=by rw[iw (by simp;omega) (by simp;omega)];simp;omega
  have hf:fullC 7 [(⟨7,z1,q⟩:Ch)]=decide ((q.length:Int)=z1):=by simp[fullC,getC]
  have he:emptyC 7 [(⟨7,z1,q⟩:Ch)]=decide ((q.length:Int)=0):=by simp[emptyC,getC]
  have fin:=order_end hin hv (by omega) k3
  have tail:∀A:Nat→Option Bool,(∀n,A n=bO2 (F41 n (7:Int) p2) fun b78 pm79=>lenF (R inn) fun z80=>lenF (R out) fun z81=>(if z80=z81 then letB (!(b78==true)) fun b82=>L8_8 n (R inn) (R out) b82 pm79 else letB (!(b78==false)) fun b83=>L8_8 n (R inn) (R out) b83 pm79))→Ev A true:=by
   intro A hA
   refine Ev.congr (Ev.bO2 e3 ?_) (fun n=>(hA n).symm)
   rw[he]
   simp only[lenF,letB]
   by_cases c:q.length=0
   ·simp only[if_pos (show ((R inn).length:Int)=((R out).length:Int)by simp;omega),decide_eq_true (show (q.length:Int)=0 by omega),beq_self_eq_true,Bool.not_true]
    exact fin
   ·simp only[if_neg (show ¬((R inn).length:Int)=((R out).length:Int)by simp;omega),decide_eq_false (show ¬(q.length:Int)=0 by omega),beq_self_eq_true,Bool.not_true]
    exact fin
  rw[hf]
  simp only[lenF,letF,hz]
  by_cases c:(q.length:Int)=z1
  ·simp only[if_pos c,decide_eq_true c,beq_self_eq_true,Bool.not_true,letB,Bool.false_eq_true,if_false]
   exact tail _ (fun n=>rfl)
  ·simp only[if_neg c,decide_eq_false c,beq_self_eq_true,Bool.not_true,letB,Bool.false_eq_true,if_false]
   exact tail _ (fun n=>rfl)
 ·intro i hi ih inn out q pm hin hv hle h
  have hlen:inn.length=out.length+q.length:=by rw[hin,List.length_append]
  obtain⟨x,hx,_,hr⟩:=hl.get hi
  obtain⟨a,rfl,ha⟩:=actQ hr
  have hav:=hvs i a hx
  have hqr:=(QOK.vs h (⟨7,z1,q⟩:Ch) (by simp)).2.2.1
  have hqr:(q.length:Int)≤z1:=hqr
  have next:∀(inn' out' q':List VV) (pm':List PRow),inn'=out'++q'→(∀v∈inn',VS v)→inn'.length≤i+1→QOK pm' [⟨7,z1,q'⟩]→Ev (fun n=>L8_7 n z1 l (i:Int) (R inn') (R out') pm') true:=by
   intro inn' out' q' pm' b1 b2 b3 b4
   refine .succ ?_
   simp only[L8_7,letF,wrap_succ hi hl.1]
   exact ih inn' out' q' pm' b1 b2 b3 b4
  refine .succ ?_
  simp only[L8_2,lenF,if_pos (ilt hi)]
  refine .succ ?_
  simp only[L8_3,if_true,getF_nat hx,dsq]
  by_cases c:4≤a.kd
  ·simp only[if_pos c]
   refine .succ ?_
   simp only[L8_4,if_true]
   cases hq:q with
   | nil=>
    subst hq
    obtain⟨p2,e2,k2⟩:=evPo h 7 (v:=zeroV) (b:=false) (S':=[⟨7,z1,[]⟩]) (by simp[popC,getC])
    refine Ev.bO8 e2 ?_
    simp only[lenF,if_neg (show ¬((R out).length:Int)<((R inn).length:Int)by simp;simp at hlen;omega),letB,beq_self_eq_true,Bool.not_true]
    refine .succ ?_
    simp only[L8_5,Bool.false_eq_true,if_false]
    exact next inn out [] p2 hin hv (by omega) k2
   | cons v q'=>
    subst hq
    obtain⟨p2,e2,k2⟩:=evPo h 7 (v:=v) (b:=true) (S':=[⟨7,z1,q'⟩]) (by simp[popC,getC,updC])
    refine Ev.bO8 e2 ?_
    simp only[lenF,if_pos (show ((R out).length:Int)<((R inn).length:Int)by simp;simp at hlen;omega),letB,beq_self_eq_true,Bool.not_true]
    refine .succ ?_
    simp only[L8_5,Bool.false_eq_true,if_false,if_true,app1_ok (show out.length≤900 by omega)]
    exact next inn (out++[v]) q' p2 (by rw[hin];simp) hv (by omega) k2
  ·simp only[if_neg c]
   refine .succ ?_
   simp only[L8_4,Bool.false_eq_true,if_false,getF_nat hx,dsq]
   have hz:IntKind.wrap .i64 (((R inn).length:Int) - ((R out).length:Int))=(q.length:Int):=by rw[iw (by simp;omega) (by simp;omega)];simp;omega
   by_cases d:(q.length:Int)=z1
   ·obtain⟨p2,e2,k2⟩:=evPu h 7 hav (b:=false) (S':=[⟨7,z1,q⟩]) (by simp[pushC,getC,d])
    refine Ev.bO2 e2 ?_
    simp only[lenF,letF,hz,if_neg (show ¬(q.length:Int)<z1 by omega),letB,beq_self_eq_true,Bool.not_true]
    refine .succ ?_
    simp only[L8_6,Bool.false_eq_true,if_false]
    exact next inn out q p2 hin hv (by omega) k2
   ·obtain⟨p2,e2,k2⟩:=evPu h 7 hav (b:=true) (S':=[⟨7,z1,q++[a.v]⟩]) (by simp[pushC,getC,updC,d])
    refine Ev.bO2 e2 ?_
    simp only[lenF,letF,hz,if_pos (show (q.length:Int)<z1 by omega),letB,beq_self_eq_true,Bool.not_true]
    refine .succ ?_
    simp only[L8_6,Bool.false_eq_true,if_false,if_true,getF_nat hx,dsq,app1_ok (show inn.length≤900 by omega)]
    refine next (inn++[a.v]) out (q++[a.v]) p2 (by rw[hin];simp) (fun v hv'=>?_) (by simp;omega) k2
    rcases List.mem_append.1 hv' with h5 | h5
    ·exact hv v h5
    ·rw[List.mem_singleton.1 h5];exact hav
theorem order_law (z1:Int) {l:List D}(hl:ListS tab 61 l):Ev (fun n=>F8 n z1 l) true:=by
 have f43:∀n,F43 n=some ():=fun n=>rfl
 unfold F8
 refine Ev.bO1 ev_awake ?_
 simp only[letB,Bool.not_true,Bool.false_eq_true,if_false]
 have yes:Ev (fun n=>L8_1 n z1 l true) true:=.succ (by simp only[L8_1,if_true];exact .ret)
 by_cases c1:z1<1
 ·simp only[if_pos c1];exact yes
 by_cases c2:8<z1
 ·simp only[if_neg c1,if_pos c2];exact yes
 simp only[if_neg c1,if_neg c2]
 obtain⟨b,b1,b2⟩:=great hl
 refine Ev.bO1 b1 ?_
 cases b with
 | true=>exact yes
 | false=>
  obtain⟨g1,g2⟩:=b2 rfl
  obtain⟨p1,e1,k1⟩:=evMk (pm:=[]) (S:=[]) (S':=[⟨7,z1,[]⟩]) trivial 7 z1 (by simp only[makeC,getC];rw[if_neg (by omega)];rfl)
  refine .succ ?_
  simp only[L8_1,Bool.false_eq_true,if_false]
  exact Ev.bO0 (.of f43) (Ev.bO1 e1 (order_loop (by omega) (by omega) hl g1 g2 0 (Nat.zero_le _) [] [] [] p1 rfl (by simp) (by simp) k1))
theorem queues_order_trip:∀xs:List D,Shapes tab [3,63] xs→Trip Try.prog inv 8 (xs.map V1.d) [] (.v (.d (.bool true))) [] []:=by
 intro xs h
 match xs,h with
 | [u,v],⟨u1,u2,v1,v2,_⟩=>
  obtain⟨a,rfl,_⟩:=rs3 ⟨u1,u2⟩
  obtain⟨l,rfl,hl⟩:=rs63 ⟨v1,v2⟩
  obtain⟨n,hn⟩:=(order_law a hl).run
  exact T8 n hn
end Go.Proofs.Ytiiojajgajnhpaa
end
namespace Go.Proofs.Ytiiojajgajnhpaa
open Go Go.ChangeShapes Go.WideShapes Go.ChangeAt Go.RowKit Go.AM
theorem queues_order_reads:∀t∈[3,63],Try.prog.readableRec t=true∧t<Try.prog.types.size:=by
 have h:([3,63].all fun t=>Try.prog.readableRec t&&decide (t<Try.prog.types.size))=true:=by kernel_rfl
 intro t ht
 have:=List.all_eq_true.1 h t ht
 simpa using this
set_option maxRecDepth 100000 in
theorem queues_order_lifted (os:Os) (started:os.Started) (H:Type) (enc:TypeId×Value→H):
  ReturnsInHanded {} Try.checked os 8 .any (Rows.queuesOrderSpec.pre6 enc Try.prog Try.f8 Rows.queuesOrderRow.domain false) (Rows.queuesOrderSpec.post enc Try.prog Try.f8 false true false false):=by
 refine returnsInHanded_of_change (C:=Try.checked) (by kernel_rfl) started (by kernel_rfl) Try.func8
  (ChangeSpec.witness6 (enc:=enc) (C:=Try.checked) false ⟨#[],#[.int .i64 0,.slice none 0 0],[]⟩ 8 (by kernel_rfl) (by kernel_rfl) (by kernel_rfl) (by kernel_rfl)) ?_
 intro W base args ds gs before hval0 hW _ _
 refine law_calls (ti:=tab) (T:=[2,3,5,9,46,47,49,61,63]) tab_ok (by kernel_rfl) (ts:=[3,63]) (bt:=4) rfl rfl rfl (by kernel_rfl) (by decide) ?_ (by kernel_rfl) queues_order_reads queues_order_trip ⟨trivial,fun _ h=>h.elim⟩ hval0 hW
 intro ds h
 match ds,h with
 | [_,_],_=>exact⟨rfl,rfl,rfl⟩
theorem queues_order:Rows.QueuesOrderSaid:=
 OpenClaim.holds_of_wide 8 Try.f8 rfl rfl rfl rfl rfl rfl rfl ⟨rfl,rfl,rfl,rfl,rfl⟩ rfl rfl rfl rfl rfl (by kernel_rfl) Try.func8 (by kernel_rfl)
  (of_decide_eq_true (by kernel_rfl)) (by unfold Func.isWrapper;first | (rw[if_pos (by decide+kernel)];kernel_rfl) | (rw[if_neg (by decide+kernel)];exact⟨rfl,rfl⟩))
  (fun os started H enc _=>queues_order_lifted os started H enc)
end Go.Proofs.Ytiiojajgajnhpaa
set_option linter.unusedVariables false
noncomputable section
namespace Go.Proofs.Ytiiojajgajnhpaa
open Go Go.AM
mutual
def L9_1:Nat→(List D)→Int→Int→(List PRow)→(List PRow)→Option (Bool)
 | 0,_,_,_,_,_=>none
 | n+1,l1,z2,z6,pm7,pm8=>
  lenF l1 fun z9=>(if z6<z9 then L9_2 n l1 z2 z6 pm7 pm8 true else L9_2 n l1 z2 z6 pm7 pm8 false)
def L9_2:Nat→(List D)→Int→Int→(List PRow)→(List PRow)→Bool→Option (Bool)
 | 0,_,_,_,_,_,_=>none
 | n+1,l1,z2,z6,pm7,pm8,b10=>
  (if b10=true then getF l1 z6 fun x11=>ds_t61 x11 fun z12 z13 z14 z15 z16 s17 l18 z19 l20=>(if z12=(0:Int)then L9_3 n l1 z2 z6 pm7 pm8 z12 z13 z14 z15 z16 s17 l18 z19 l20 true else L9_3 n l1 z2 z6 pm7 pm8 z12 z13 z14 z15 z16 s17 l18 z19 l20 false)else bS (F42 n z2 pm7) (fun p91=>bO2 (some p91) fun pm74 l75=>bS (F42 n z2 pm8) (fun p81=>bO2 (some p81) fun pm76 l77=>bO1 (F48 n l75 l77) fun b78=>some b78) (fun pm79=>bO1 (F48 n l75 ([]:List D)) fun b80=>some b80)) (fun pm83=>bS (F42 n z2 pm8) (fun p89=>bO2 (some p89) fun pm84 l85=>bO1 (F48 n ([]:List D) l85) fun b86=>some b86) (fun pm87=>bO1 (F48 n ([]:List D) ([]:List D)) fun b88=>some b88)))
def L9_3:Nat→(List D)→Int→Int→(List PRow)→(List PRow)→Int→Int→Int→Int→Int→ByteArray→(List D)→Int→(List D)→Bool→Option (Bool)
 | 0,_,_,_,_,_,_,_,_,_,_,_,_,_,_,_=>none
 | n+1,l1,z2,z6,pm7,pm8,z12,z13,z14,z15,z16,s17,l18,z19,l20,b21=>
  (if b21=true then bO1 (F37 n z13 z14 pm7) fun pm22=>(if z13=z2 then L9_4 n l1 z2 z6 pm8 z13 z14 pm22 true else L9_4 n l1 z2 z6 pm8 z13 z14 pm22 false)else (if z12=(1:Int)then L9_5 n l1 z2 z6 pm7 pm8 z12 z13 z15 z16 s17 l18 z19 l20 true else L9_5 n l1 z2 z6 pm7 pm8 z12 z13 z15 z16 s17 l18 z19 l20 false))
def L9_4:Nat→(List D)→Int→Int→(List PRow)→Int→Int→(List PRow)→Bool→Option (Bool)
 | 0,_,_,_,_,_,_,_,_=>none
 | n+1,l1,z2,z6,pm8,z13,z14,pm22,b23=>
  (if b23=true then bO1 (F37 n z13 z14 pm8) fun pm24=>L9_13 n l1 z2 z6 pm22 pm24 else L9_13 n l1 z2 z6 pm22 pm8)
def L9_5:Nat→(List D)→Int→Int→(List PRow)→(List PRow)→Int→Int→Int→Int→ByteArray→(List D)→Int→(List D)→Bool→Option (Bool)
 | 0,_,_,_,_,_,_,_,_,_,_,_,_,_,_=>none
 | n+1,l1,z2,z6,pm7,pm8,z12,z13,z15,z16,s17,l18,z19,l20,b25=>
  (if b25=true then L9_7 n l1 z2 z6 pm7 pm8 z12 z13 z15 z16 s17 l18 z19 l20 true else (if z12=(2:Int)then L9_6 n l1 z2 z6 pm7 pm8 z12 z13 z15 z16 s17 l18 z19 l20 true else L9_6 n l1 z2 z6 pm7 pm8 z12 z13 z15 z16 s17 l18 z19 l20 false))
def L9_6:Nat→(List D)→Int→Int→(List PRow)→(List PRow)→Int→Int→Int→Int→ByteArray→(List D)→Int→(List D)→Bool→Option (Bool)
 | 0,_,_,_,_,_,_,_,_,_,_,_,_,_,_=>none
 | n+1,l1,z2,z6,pm7,pm8,z12,z13,z15,z16,s17,l18,z19,l20,b26=>
  (if b26=true then L9_7 n l1 z2 z6 pm7 pm8 z12 z13 z15 z16 s17 l18 z19 l20 true else (if z12=(3:Int)then L9_7 n l1 z2 z6 pm7 pm8 z12 z13 z15 z16 s17 l18 z19 l20 true else L9_7 n l1 z2 z6 pm7 pm8 z12 z13 z15 z16 s17 l18 z19 l20 false))
def L9_7:Nat→(List D)→Int→Int→(List PRow)→(List PRow)→Int→Int→Int→Int→ByteArray→(List D)→Int→(List D)→Bool→Option (Bool)
 | 0,_,_,_,_,_,_,_,_,_,_,_,_,_,_=>none
 | n+1,l1,z2,z6,pm7,pm8,z12,z13,z15,z16,s17,l18,z19,l20,b27=>
  (if b27=true then bO2 (F39 n z13 z15 z16 s17 l18 z19 l20 pm7) fun b28 pm29=>(if z13=z2 then bO2 (F39 n z13 z15 z16 s17 l18 z19 l20 pm8) fun b30 pm31=>letB (!(b30==b28)) fun b32=>L9_8 n l1 z2 z6 pm29 b32 pm31 else L9_8 n l1 z2 z6 pm29 false pm8)else (if z12=(4:Int)then L9_9 n l1 z2 z6 pm7 pm8 z12 z13 true else L9_9 n l1 z2 z6 pm7 pm8 z12 z13 false))
def L9_8:Nat→(List D)→Int→Int→(List PRow)→Bool→(List PRow)→Option (Bool)
 | 0,_,_,_,_,_,_=>none
 | n+1,l1,z2,z6,pm29,b33,pm34=>
  (if b33=true then some false else L9_13 n l1 z2 z6 pm29 pm34)
def L9_9:Nat→(List D)→Int→Int→(List PRow)→(List PRow)→Int→Int→Bool→Option (Bool)
 | 0,_,_,_,_,_,_,_,_=>none
 | n+1,l1,z2,z6,pm7,pm8,z12,z13,b35=>
  (if b35=true then L9_10 n l1 z2 z6 pm7 pm8 z13 true else (if z12=(5:Int)then L9_10 n l1 z2 z6 pm7 pm8 z13 true else L9_10 n l1 z2 z6 pm7 pm8 z13 false))
def L9_10:Nat→(List D)→Int→Int→(List PRow)→(List PRow)→Int→Bool→Option (Bool)
 | 0,_,_,_,_,_,_,_=>none
 | n+1,l1,z2,z6,pm7,pm8,z13,b36=>
  (if b36=true then bO8 (F38 n z13 pm7) fun z37 z38 s39 l40 z41 l42 b43 pm44=>(if z13=z2 then L9_11 n l1 z2 z6 pm8 z13 z37 z38 s39 l40 z41 l42 b43 pm44 true else L9_11 n l1 z2 z6 pm8 z13 z37 z38 s39 l40 z41 l42 b43 pm44 false)else L9_13 n l1 z2 z6 pm7 pm8)
def L9_11:Nat→(List D)→Int→Int→(List PRow)→Int→Int→Int→ByteArray→(List D)→Int→(List D)→Bool→(List PRow)→Bool→Option (Bool)
 | 0,_,_,_,_,_,_,_,_,_,_,_,_,_,_=>none
 | n+1,l1,z2,z6,pm8,z13,z37,z38,s39,l40,z41,l42,b43,pm44,b45=>
  (if b45=true then bO8 (F38 n z13 pm8) fun z46 z47 s48 l49 z50 l51 b52 pm53=>letB (!(b43==b52)) fun b54=>(if b54=true then L9_12 n l1 z2 z6 pm44 pm53 true else bO1 (F34 n z37 z38 s39 l40 z41 l42 z46 z47 s48 l49 z50 l51) fun b55=>letB (!b55) fun b56=>L9_12 n l1 z2 z6 pm44 pm53 b56)else L9_13 n l1 z2 z6 pm44 pm8)
def L9_12:Nat→(List D)→Int→Int→(List PRow)→(List PRow)→Bool→Option (Bool)
 | 0,_,_,_,_,_,_=>none
 | n+1,l1,z2,z6,pm44,pm53,b57=>
  (if b57=true then some false else L9_13 n l1 z2 z6 pm44 pm53)
def L9_13:Nat→(List D)→Int→Int→(List PRow)→(List PRow)→Option (Bool)
 | 0,_,_,_,_,_=>none
 | n+1,l1,z2,z6,pm58,pm59=>
  bO2 (F40 n z2 pm58) fun b60 pm61=>bO2 (F40 n z2 pm59) fun b62 pm63=>letB (!(b60==b62)) fun b64=>(if b64=true then L9_14 n l1 z2 z6 true pm61 pm63 else bO2 (F41 n z2 pm61) fun b65 pm66=>bO2 (F41 n z2 pm63) fun b67 pm68=>letB (!(b65==b67)) fun b69=>L9_14 n l1 z2 z6 b69 pm66 pm68)
def L9_14:Nat→(List D)→Int→Int→Bool→(List PRow)→(List PRow)→Option (Bool)
 | 0,_,_,_,_,_,_=>none
 | n+1,l1,z2,z6,b70,pm71,pm72=>
  (if b70=true then some false else letF (IntKind.wrap .i64 (z6+1)) fun z73=>L9_1 n l1 z2 z73 pm71 pm72)
end
def F9 (n:Nat) (l1:List D) (z2:Int):Option (Bool):=
 bO1 (F47 n) fun b3=>letB (!b3) fun b4=>(if b4=true then some false else bO1 (F36 n l1) fun b5=>(if b5=true then some true else bO0 (F43 n) (bO0 (F43 n) (L9_1 n l1 z2 (0:Int) ([]:List PRow) ([]:List PRow)))))
theorem T9 (n:Nat):∀⦃l1:List D⦄ ⦃z2:Int⦄ ⦃r1:Bool⦄,F9 n l1 z2=some r1→
    Trip Try.prog inv 9 [.d (.list true 9 l1),.d (.int .i64 z2)] [] (.v (.d (.bool r1))) [] []:=by
 intro l1 z2 r1 h
 unfold F9 at h
 refine Trip.of tab_ok tab_one fol Try.func9 rfl (by kernel_rfl) rfl rfl rfl (fun M hM hI=>?_)
 try cbv
 refine seq_go ?_
 try cbv
 refine seq_go ?_
 try cbv
 refine seq_go ?_
 try cbv
 replace h:=bO1_inv h
 obtain⟨b3,hr,h⟩:=h
 refine call_go rfl rfl ?_
 try cbv
 refine call_pure hM hI (T47 _ hr) rfl ?_
 clear hr
 try cbv
 replace h:=letB_inv h
 obtain⟨b4,hz,h⟩:=h
 refine⟨b4,not_eq' hz,?_⟩
 clear hz
 try cbv
 cases b4
 rotate_left
 ·replace h:=ite_t rfl h
  try cbv
  refine seq_go ?_
  try cbv
  obtain rfl:=Option.some.inj h
  refine fin_go ?_
  try cbv
  exact⟨[],rfl,rfl,trivial,trivial,trivial⟩
 replace h:=ite_f Bool.false_ne_true h
 try cbv
 refine seq_go ?_
 try cbv
 refine seq_go ?_
 try cbv
 replace h:=bO1_inv h
 obtain⟨b5,hr,h⟩:=h
 refine call_go rfl rfl ?_
 try cbv
 refine call_pure hM hI (T36 _ hr) rfl ?_
 clear hr
 try cbv
 cases b5
 rotate_left
 ·replace h:=ite_t rfl h
  try cbv
  refine seq_go ?_
  try cbv
  obtain rfl:=Option.some.inj h
  refine fin_go ?_
  try cbv
  exact⟨[],rfl,rfl,trivial,trivial,trivial⟩
 replace h:=ite_f Bool.false_ne_true h
 try cbv
 refine seq_go ?_
 try cbv
 replace h:=bO0_inv h
 obtain⟨hr,h⟩:=h
 refine call_go rfl rfl ?_
 try cbv
 refine call_with hM hI [] (T43 _ hr) rfl (by simp) trivial trivial (by simp) ?_
 clear hr
 try cbv
 replace h:=bO0_inv h
 obtain⟨hr,h⟩:=h
 refine call_go rfl rfl ?_
 try cbv
 refine call_with hM hI [] (T43 _ hr) rfl (by simp) trivial trivial (by simp) ?_
 clear hr
 try cbv
 refine seq_go ?_
 try cbv
 refine seq_go ?_
 try cbv
 refine loop_invG (T:=Nat×Int×List PRow×List PRow) [] [] [0,1,4,5,6,7] [.loc 160,.loc 161,.loc 192,.loc 193] 320 (fun t=>⟨[(0,.v (.d (.list true 9 l1))),(1,.v (.d (.int .i64 z2))),(4,.v (.d (.bool false))),(5,.v (.c (.ptr (.loc 160) 0))),(6,.v (.c (.ptr (.loc 192) 0))),(7,.v (.d (.int .i64 t.2.1)))],[(.loc 160,.cells [.ow (.loc 161)]),(.loc 161,.pmap 3 6 8 t.2.2.1 none),(.loc 192,.cells [.ow (.loc 193)]),(.loc 193,.pmap 3 6 8 t.2.2.2 none)],320⟩)
   (fun t=>t.1≤n∧L9_1 t.1 l1 z2 t.2.1 t.2.2.1 t.2.2.2=some r1) (fun t=>t.1) (n,((0:Int),([]:List PRow),([]:List PRow))) ⟨Nat.le_refl _,h⟩ (by cbv) ?_
 clear h
 rintro⟨m1,z6,pm7,pm8⟩ ⟨hm1,h⟩
 replace hm1:m1≤n:=hm1
 obtain _ | m1:=m1
 ·replace h:L9_1 0 l1 z2 z6 pm7 pm8=some r1:=h
  rw[L9_1]at h
  cases h
 replace h:L9_1 (m1+1) l1 z2 z6 pm7 pm8=some r1:=h
 rw[L9_1]at h
 try cbv
 refine seq_go ?_
 try cbv
 refine seq_join (T:=Nat×Bool) (fun t=>⟨[(0,.v (.d (.list true 9 l1))),(1,.v (.d (.int .i64 z2))),(4,.v (.d (.bool false))),(5,.v (.c (.ptr (.loc 160) 0))),(6,.v (.c (.ptr (.loc 192) 0))),(7,.v (.d (.int .i64 z6))),(23,.v (.d (.bool t.2)))],[(.loc 160,.cells [.ow (.loc 161)]),(.loc 161,.pmap 3 6 8 pm7 none),(.loc 192,.cells [.ow (.loc 193)]),(.loc 193,.pmap 3 6 8 pm8 none)],448⟩) (fun t=>t.1≤m1∧L9_2 t.1 l1 z2 z6 pm7 pm8 t.2=some r1) ?_ ?_
 ·try cbv
  replace h:=lenF_inv M h
  obtain⟨z9,hz,h⟩:=h
  refine⟨z9,hz,?_⟩
  clear hz
  try cbv
  refine splitL (fun e=>?_) (fun e=>?_)
  ·replace h:=ite_t e h
   clear e
   try cbv
   exact join_next (m1,true) [0,1,4,5,6,7,23] [.loc 160,.loc 161,.loc 192,.loc 193] 448 ⟨by omega,h⟩ (by cbv)
  replace h:=ite_f (Int.not_lt.2 e) h
  clear e
  try cbv
  exact join_next (m1,false) [0,1,4,5,6,7,23] [.loc 160,.loc 161,.loc 192,.loc 193] 448 ⟨by omega,h⟩ (by cbv)
 clear h
 rintro⟨m2,b10⟩ ⟨hm2,h⟩
 replace hm2:m2≤m1:=hm2
 obtain _ | m2:=m2
 ·replace h:L9_2 0 l1 z2 z6 pm7 pm8 b10=some r1:=h
  rw[L9_2]at h
  cases h
 replace h:L9_2 (m2+1) l1 z2 z6 pm7 pm8 b10=some r1:=h
 rw[L9_2]at h
 try cbv
 cases b10
 ·replace h:=ite_f Bool.false_ne_true h
  try cbv
  refine seq_go ?_
  try cbv
  replace h:=bS_inv h
  rcases h with⟨p91,hr,h⟩ | ⟨pm83,hr,h⟩
  ·replace h:=bO2_inv h
   obtain⟨pm74,l75,hp,h⟩:=h
   obtain rfl:=Option.some.inj hp
   clear hp
   refine call_go rfl rfl ?_
   try cbv
   refine call_with hM hI [.loc 160,.loc 161] (T42 _ hr (fun r p n=>r= .v (.c (.ow (.loc 0)))∧p=[.cells [.ow (.ext 1)],.pmap 3 6 8 pm74 none]∧n=[.tree .flat true 6 l75 none]) ⟨rfl,rfl,rfl⟩:Trip _ _ _ _ _ (.v (.c (.ow (.loc 0)))) [.cells [.ow (.ext 1)],.pmap 3 6 8 pm74 none] [.tree .flat true 6 l75 none]) rfl (by simp) ⟨rfl,⟨rfl,trivial⟩⟩ ⟨trivial,⟨trivial,trivial⟩⟩ (by simp) ?_
   clear hr
   try cbv
   replace h:=bS_inv h
   rcases h with⟨p81,hr,h⟩ | ⟨pm79,hr,h⟩
   ·replace h:=bO2_inv h
    obtain⟨pm76,l77,hp,h⟩:=h
    obtain rfl:=Option.some.inj hp
    clear hp
    refine call_go rfl rfl ?_
    try cbv
    refine call_with hM hI [.loc 192,.loc 193] (T42 _ hr (fun r p n=>r= .v (.c (.ow (.loc 0)))∧p=[.cells [.ow (.ext 1)],.pmap 3 6 8 pm76 none]∧n=[.tree .flat true 6 l77 none]) ⟨rfl,rfl,rfl⟩:Trip _ _ _ _ _ (.v (.c (.ow (.loc 0)))) [.cells [.ow (.ext 1)],.pmap 3 6 8 pm76 none] [.tree .flat true 6 l77 none]) rfl (by simp) ⟨rfl,⟨rfl,trivial⟩⟩ ⟨trivial,⟨trivial,trivial⟩⟩ (by simp) ?_
    clear hr
    try cbv
    replace h:=bO1_inv h
    obtain⟨b78,hr,h⟩:=h
    refine call_gs [.freeze (.loc 512),.freeze (.loc 608)] rfl rfl ?_
    try cbv
    first | refine⟨(rfl:(_:Nat)=_),?_⟩ | refine⟨True.intro,?_⟩ | skip
    refine callfv_with hM hI [] rfl rfl (T48 _ hr) rfl (by simp) trivial trivial (by simp) ?_
    clear hr
    try cbv
    obtain rfl:=Option.some.inj h
    refine fin_go ?_
    try cbv
    exact⟨[],rfl,rfl,trivial,trivial,trivial⟩
   refine call_go rfl rfl ?_
   try cbv
   refine call_with hM hI [.loc 192,.loc 193] (T42 _ hr (fun r p n=>r= .v (.c (.ow (.loc 0)))∧p=[.cells [.ow (.ext 1)],.pmap 3 6 8 pm79 none]∧n=[.tree .row true 6 [] none]) ⟨rfl,rfl,rfl⟩:Trip _ _ _ _ _ (.v (.c (.ow (.loc 0)))) [.cells [.ow (.ext 1)],.pmap 3 6 8 pm79 none] [.tree .row true 6 [] none]) rfl (by simp) ⟨rfl,⟨rfl,trivial⟩⟩ ⟨trivial,⟨trivial,trivial⟩⟩ (by simp) ?_
   clear hr
   try cbv
   replace h:=bO1_inv h
   obtain⟨b80,hr,h⟩:=h
   refine call_gs [.freeze (.loc 512),.freeze (.loc 608)] rfl rfl ?_
   try cbv
   first | refine⟨(rfl:(_:Nat)=_),?_⟩ | refine⟨True.intro,?_⟩ | skip
   refine callfv_with hM hI [] rfl rfl (T48 _ hr) rfl (by simp) trivial trivial (by simp) ?_
   clear hr
   try cbv
   obtain rfl:=Option.some.inj h
   refine fin_go ?_
   try cbv
   exact⟨[],rfl,rfl,trivial,trivial,trivial⟩
  refine call_go rfl rfl ?_
  try cbv
  refine call_with hM hI [.loc 160,.loc 161] (T42 _ hr (fun r p n=>r= .v (.c (.ow (.loc 0)))∧p=[.cells [.ow (.ext 1)],.pmap 3 6 8 pm83 none]∧n=[.tree .row true 6 [] none]) ⟨rfl,rfl,rfl⟩:Trip _ _ _ _ _ (.v (.c (.ow (.loc 0)))) [.cells [.ow (.ext 1)],.pmap 3 6 8 pm83 none] [.tree .row true 6 [] none]) rfl (by simp) ⟨rfl,⟨rfl,trivial⟩⟩ ⟨trivial,⟨trivial,trivial⟩⟩ (by simp) ?_
  clear hr
  try cbv
  replace h:=bS_inv h
  rcases h with⟨p89,hr,h⟩ | ⟨pm87,hr,h⟩
  ·replace h:=bO2_inv h
   obtain⟨pm84,l85,hp,h⟩:=h
   obtain rfl:=Option.some.inj hp
   clear hp
   refine call_go rfl rfl ?_
   try cbv
   refine call_with hM hI [.loc 192,.loc 193] (T42 _ hr (fun r p n=>r= .v (.c (.ow (.loc 0)))∧p=[.cells [.ow (.ext 1)],.pmap 3 6 8 pm84 none]∧n=[.tree .flat true 6 l85 none]) ⟨rfl,rfl,rfl⟩:Trip _ _ _ _ _ (.v (.c (.ow (.loc 0)))) [.cells [.ow (.ext 1)],.pmap 3 6 8 pm84 none] [.tree .flat true 6 l85 none]) rfl (by simp) ⟨rfl,⟨rfl,trivial⟩⟩ ⟨trivial,⟨trivial,trivial⟩⟩ (by simp) ?_
   clear hr
   try cbv
   replace h:=bO1_inv h
   obtain⟨b86,hr,h⟩:=h
   refine call_gs [.freeze (.loc 512),.freeze (.loc 608)] rfl rfl ?_
   try cbv
   first | refine⟨(rfl:(_:Nat)=_),?_⟩ | refine⟨True.intro,?_⟩ | skip
   refine callfv_with hM hI [] rfl rfl (T48 _ hr) rfl (by simp) trivial trivial (by simp) ?_
   clear hr
   try cbv
   obtain rfl:=Option.some.inj h
   refine fin_go ?_
   try cbv
   exact⟨[],rfl,rfl,trivial,trivial,trivial⟩
  refine call_go rfl rfl ?_
  try cbv
  refine call_with hM hI [.loc 192,.loc 193] (T42 _ hr (fun r p n=>r= .v (.c (.ow (.loc 0)))∧p=[.cells [.ow (.ext 1)],.pmap 3 6 8 pm87 none]∧n=[.tree .row true 6 [] none]) ⟨rfl,rfl,rfl⟩:Trip _ _ _ _ _ (.v (.c (.ow (.loc 0)))) [.cells [.ow (.ext 1)],.pmap 3 6 8 pm87 none] [.tree .row true 6 [] none]) rfl (by simp) ⟨rfl,⟨rfl,trivial⟩⟩ ⟨trivial,⟨trivial,trivial⟩⟩ (by simp) ?_
  clear hr
  try cbv
  replace h:=bO1_inv h
  obtain⟨b88,hr,h⟩:=h
  refine call_gs [.freeze (.loc 512),.freeze (.loc 608)] rfl rfl ?_
  try cbv
  first | refine⟨(rfl:(_:Nat)=_),?_⟩ | refine⟨True.intro,?_⟩ | skip
  refine callfv_with hM hI [] rfl rfl (T48 _ hr) rfl (by simp) trivial trivial (by simp) ?_
  clear hr
  try cbv
  obtain rfl:=Option.some.inj h
  refine fin_go ?_
  try cbv
  exact⟨[],rfl,rfl,trivial,trivial,trivial⟩
 replace h:=ite_t rfl h
 try cbv
 refine seq_go ?_
 try cbv
 refine seq_go ?_
 try cbv
 replace h:=getF_inv h
 obtain⟨x11,⟨hx0,hx⟩,h⟩:=h
 refine⟨x11,hx0,hx,?_⟩
 clear hx0 hx
 replace h:=ds_t61_inv h
 obtain⟨z12,z13,z14,z15,z16,s17,l18,z19,l20,rfl,h⟩:=h
 try cbv
 refine seq_join (T:=Nat×(List PRow)×(List PRow)) (fun t=>⟨[(0,.v (.d (.list true 9 l1))),(1,.v (.d (.int .i64 z2))),(4,.v (.d (.bool false))),(5,.v (.c (.ptr (.loc 160) 0))),(6,.v (.c (.ptr (.loc 192) 0))),(7,.v (.d (.int .i64 z6)))],[(.loc 160,.cells [.ow (.loc 161)]),(.loc 161,.pmap 3 6 8 t.2.1 none),(.loc 192,.cells [.ow (.loc 193)]),(.loc 193,.pmap 3 6 8 t.2.2 none)],2144⟩) (fun t=>t.1≤m2∧L9_13 t.1 l1 z2 z6 t.2.1 t.2.2=some r1) ?_ ?_
 rotate_left
 ·clear h
  rintro⟨m13,pm58,pm59⟩ ⟨hm13,h⟩
  replace hm13:m13≤m2:=hm13
  obtain _ | m13:=m13
  ·replace h:L9_13 0 l1 z2 z6 pm58 pm59=some r1:=h
   rw[L9_13]at h
   cases h
  replace h:L9_13 (m13+1) l1 z2 z6 pm58 pm59=some r1:=h
  rw[L9_13]at h
  try cbv
  refine seq_join (T:=Nat×Bool×(List PRow)×(List PRow)) (fun t=>⟨[(0,.v (.d (.list true 9 l1))),(1,.v (.d (.int .i64 z2))),(4,.v (.d (.bool false))),(5,.v (.c (.ptr (.loc 160) 0))),(6,.v (.c (.ptr (.loc 192) 0))),(7,.v (.d (.int .i64 z6))),(119,.v (.d (.bool t.2.1)))],[(.loc 160,.cells [.ow (.loc 161)]),(.loc 161,.pmap 3 6 8 t.2.2.1 none),(.loc 192,.cells [.ow (.loc 193)]),(.loc 193,.pmap 3 6 8 t.2.2.2 none)],2656⟩) (fun t=>t.1≤m13∧L9_14 t.1 l1 z2 z6 t.2.1 t.2.2.1 t.2.2.2=some r1) ?_ ?_
  rotate_left
  ·clear h
   rintro⟨m14,b70,pm71,pm72⟩ ⟨hm14,h⟩
   replace hm14:m14≤m13:=hm14
   obtain _ | m14:=m14
   ·replace h:L9_14 0 l1 z2 z6 b70 pm71 pm72=some r1:=h
    rw[L9_14]at h
    cases h
   replace h:L9_14 (m14+1) l1 z2 z6 b70 pm71 pm72=some r1:=h
   rw[L9_14]at h
   try cbv
   cases b70
   ·replace h:=ite_f Bool.false_ne_true h
    try cbv
    replace h:=letF_inv h
    obtain⟨z73,hz,h⟩:=h
    refine⟨z73,hz,?_⟩
    clear hz
    try cbv
    refine loop_nextG (m14,(z73,pm71,pm72)) [] [] [0,1,4,5,6,7] [.loc 160,.loc 161,.loc 192,.loc 193] 320 ⟨by omega,h⟩ (Nat.lt_succ_of_le (by omega)) ?_
    try cbv
   replace h:=ite_t rfl h
   try cbv
   refine seq_go ?_
   try cbv
   obtain rfl:=Option.some.inj h
   refine fin_go ?_
   try cbv
   exact⟨[],rfl,rfl,trivial,trivial,trivial⟩
  try cbv
  replace h:=bO2_inv h
  obtain⟨b60,pm61,hr,h⟩:=h
  refine call_go rfl rfl ?_
  try cbv
  refine call_with hM hI [.loc 160,.loc 161] (T40 _ hr) rfl (by simp) ⟨rfl,⟨rfl,trivial⟩⟩ ⟨trivial,⟨trivial,trivial⟩⟩ (by simp) ?_
  clear hr
  try cbv
  replace h:=bO2_inv h
  obtain⟨b62,pm63,hr,h⟩:=h
  refine call_go rfl rfl ?_
  try cbv
  refine call_with hM hI [.loc 192,.loc 193] (T40 _ hr) rfl (by simp) ⟨rfl,⟨rfl,trivial⟩⟩ ⟨trivial,⟨trivial,trivial⟩⟩ (by simp) ?_
  clear hr
  try cbv
  replace h:=letB_inv h
  obtain⟨b64,hz,h⟩:=h
  refine⟨b64,eqv_ne hz,?_⟩
  clear hz
  try cbv
  cases b64
  rotate_left
  ·replace h:=ite_t rfl h
   try cbv
   exact join_next (m13,(true,pm61,pm63)) [0,1,4,5,6,7,119] [.loc 160,.loc 161,.loc 192,.loc 193] 2656 ⟨by omega,h⟩ (by cbv)
  replace h:=ite_f Bool.false_ne_true h
  try cbv
  replace h:=bO2_inv h
  obtain⟨b65,pm66,hr,h⟩:=h
  refine call_go rfl rfl ?_
  try cbv
  refine call_with hM hI [.loc 160,.loc 161] (T41 _ hr) rfl (by simp) ⟨rfl,⟨rfl,trivial⟩⟩ ⟨trivial,⟨trivial,trivial⟩⟩ (by simp) ?_
  clear hr
  try cbv
  replace h:=bO2_inv h
  obtain⟨b67,pm68,hr,h⟩:=h
  refine call_go rfl rfl ?_
  try cbv
  refine call_with hM hI [.loc 192,.loc 193] (T41 _ hr) rfl (by simp) ⟨rfl,⟨rfl,trivial⟩⟩ ⟨trivial,⟨trivial,trivial⟩⟩ (by simp) ?_
  clear hr
  try cbv
  replace h:=letB_inv h
  obtain⟨b69,hz,h⟩:=h
  refine⟨b69,eqv_ne hz,?_⟩
  clear hz
  try cbv
  exact join_next (m13,(b69,pm66,pm68)) [0,1,4,5,6,7,119] [.loc 160,.loc 161,.loc 192,.loc 193] 2656 ⟨by omega,h⟩ (by cbv)
 try cbv
 refine seq_go ?_
 try cbv
 refine seq_join (T:=Nat×Bool) (fun t=>⟨[(0,.v (.d (.list true 9 l1))),(1,.v (.d (.int .i64 z2))),(4,.v (.d (.bool false))),(5,.v (.c (.ptr (.loc 160) 0))),(6,.v (.c (.ptr (.loc 192) 0))),(7,.v (.d (.int .i64 z6))),(8,.v (.c (.ptr (.loc 576) 0))),(31,.v (.d (.int .i64 z12))),(32,.v (.d (.bool t.2)))],[(.loc 160,.cells [.ow (.loc 161)]),(.loc 161,.pmap 3 6 8 pm7 none),(.loc 192,.cells [.ow (.loc 193)]),(.loc 193,.pmap 3 6 8 pm8 none),(.loc 576,.cells [.d (.int .i64 z12),.d (.int .i64 z13),.d (.int .i64 z14),.d (.int .u8 z15),.d (.int .i64 z16),.d (.str s17),.d (.list true 6 l18),.d (.int .i64 z19),.d (.list false 1 l20)])],768⟩) (fun t=>t.1≤m2∧L9_3 t.1 l1 z2 z6 pm7 pm8 z12 z13 z14 z15 z16 s17 l18 z19 l20 t.2=some r1) ?_ ?_
 ·try cbv
  refine splitI (fun e=>?_) (fun e=>?_)
  ·replace h:=ite_t e h
   clear e
   try cbv
   exact join_next (m2,true) [0,1,4,5,6,7,8,31,32] [.loc 160,.loc 161,.loc 192,.loc 193,.loc 576] 768 ⟨by omega,h⟩ (by cbv)
  replace h:=ite_f e h
  clear e
  try cbv
  exact join_next (m2,false) [0,1,4,5,6,7,8,31,32] [.loc 160,.loc 161,.loc 192,.loc 193,.loc 576] 768 ⟨by omega,h⟩ (by cbv)
 clear h
 rintro⟨m3,b21⟩ ⟨hm3,h⟩
 replace hm3:m3≤m2:=hm3
 obtain _ | m3:=m3
 ·replace h:L9_3 0 l1 z2 z6 pm7 pm8 z12 z13 z14 z15 z16 s17 l18 z19 l20 b21=some r1:=h
  rw[L9_3]at h
  cases h
 replace h:L9_3 (m3+1) l1 z2 z6 pm7 pm8 z12 z13 z14 z15 z16 s17 l18 z19 l20 b21=some r1:=h
 rw[L9_3]at h
 try cbv
 cases b21
 rotate_left
 ·replace h:=ite_t rfl h
  try cbv
  refine seq_go ?_
  try cbv
  replace h:=bO1_inv h
  obtain⟨pm22,hr,h⟩:=h
  refine call_go rfl rfl ?_
  try cbv
  refine call_with hM hI [.loc 160,.loc 161] (T37 _ hr) rfl (by simp) ⟨rfl,⟨rfl,trivial⟩⟩ ⟨trivial,⟨trivial,trivial⟩⟩ (by simp) ?_
  clear hr
  try cbv
  refine seq_join (T:=Nat×Bool) (fun t=>⟨[(0,.v (.d (.list true 9 l1))),(1,.v (.d (.int .i64 z2))),(4,.v (.d (.bool false))),(5,.v (.c (.ptr (.loc 160) 0))),(6,.v (.c (.ptr (.loc 192) 0))),(7,.v (.d (.int .i64 z6))),(8,.v (.c (.ptr (.loc 576) 0))),(31,.v (.d (.int .i64 z12))),(43,.v (.d (.bool t.2)))],[(.loc 160,.cells [.ow (.loc 161)]),(.loc 161,.pmap 3 6 8 pm22 none),(.loc 192,.cells [.ow (.loc 193)]),(.loc 193,.pmap 3 6 8 pm8 none),(.loc 576,.cells [.d (.int .i64 z12),.d (.int .i64 z13),.d (.int .i64 z14),.d (.int .u8 z15),.d (.int .i64 z16),.d (.str s17),.d (.list true 6 l18),.d (.int .i64 z19),.d (.list false 1 l20)])],1088⟩) (fun t=>t.1≤m3∧L9_4 t.1 l1 z2 z6 pm8 z13 z14 pm22 t.2=some r1) ?_ ?_
  ·try cbv
   refine splitI (fun e=>?_) (fun e=>?_)
   ·replace h:=ite_t e h
    clear e
    try cbv
    exact join_next (m3,true) [0,1,4,5,6,7,8,31,43] [.loc 160,.loc 161,.loc 192,.loc 193,.loc 576] 1088 ⟨by omega,h⟩ (by cbv)
   replace h:=ite_f e h
   clear e
   try cbv
   exact join_next (m3,false) [0,1,4,5,6,7,8,31,43] [.loc 160,.loc 161,.loc 192,.loc 193,.loc 576] 1088 ⟨by omega,h⟩ (by cbv)
  clear h
  rintro⟨m4,b23⟩ ⟨hm4,h⟩
  replace hm4:m4≤m3:=hm4
  obtain _ | m4:=m4
  ·replace h:L9_4 0 l1 z2 z6 pm8 z13 z14 pm22 b23=some r1:=h
   rw[L9_4]at h
   cases h
  replace h:L9_4 (m4+1) l1 z2 z6 pm8 z13 z14 pm22 b23=some r1:=h
  rw[L9_4]at h
  try cbv
  cases b23
  ·replace h:=ite_f Bool.false_ne_true h
   try cbv
   exact join_next (m4,(pm22,pm8)) [0,1,4,5,6,7] [.loc 160,.loc 161,.loc 192,.loc 193] 2144 ⟨by omega,h⟩ (by cbv)
  replace h:=ite_t rfl h
  try cbv
  replace h:=bO1_inv h
  obtain⟨pm24,hr,h⟩:=h
  refine call_go rfl rfl ?_
  try cbv
  refine call_with hM hI [.loc 192,.loc 193] (T37 _ hr) rfl (by simp) ⟨rfl,⟨rfl,trivial⟩⟩ ⟨trivial,⟨trivial,trivial⟩⟩ (by simp) ?_
  clear hr
  try cbv
  exact join_next (m4,(pm22,pm24)) [0,1,4,5,6,7] [.loc 160,.loc 161,.loc 192,.loc 193] 2144 ⟨by omega,h⟩ (by cbv)
 replace h:=ite_f Bool.false_ne_true h
 try cbv
 refine seq_join (T:=Nat×Bool) (fun t=>⟨[(0,.v (.d (.list true 9 l1))),(1,.v (.d (.int .i64 z2))),(4,.v (.d (.bool false))),(5,.v (.c (.ptr (.loc 160) 0))),(6,.v (.c (.ptr (.loc 192) 0))),(7,.v (.d (.int .i64 z6))),(8,.v (.c (.ptr (.loc 576) 0))),(31,.v (.d (.int .i64 z12))),(50,.v (.d (.bool t.2)))],[(.loc 160,.cells [.ow (.loc 161)]),(.loc 161,.pmap 3 6 8 pm7 none),(.loc 192,.cells [.ow (.loc 193)]),(.loc 193,.pmap 3 6 8 pm8 none),(.loc 576,.cells [.d (.int .i64 z12),.d (.int .i64 z13),.d (.int .i64 z14),.d (.int .u8 z15),.d (.int .i64 z16),.d (.str s17),.d (.list true 6 l18),.d (.int .i64 z19),.d (.list false 1 l20)])],960⟩) (fun t=>t.1≤m3∧L9_7 t.1 l1 z2 z6 pm7 pm8 z12 z13 z15 z16 s17 l18 z19 l20 t.2=some r1) ?_ ?_
 ·try cbv
  refine seq_join (T:=Nat×Bool) (fun t=>⟨[(0,.v (.d (.list true 9 l1))),(1,.v (.d (.int .i64 z2))),(4,.v (.d (.bool false))),(5,.v (.c (.ptr (.loc 160) 0))),(6,.v (.c (.ptr (.loc 192) 0))),(7,.v (.d (.int .i64 z6))),(8,.v (.c (.ptr (.loc 576) 0))),(31,.v (.d (.int .i64 z12))),(50,.v (.d (.bool t.2)))],[(.loc 160,.cells [.ow (.loc 161)]),(.loc 161,.pmap 3 6 8 pm7 none),(.loc 192,.cells [.ow (.loc 193)]),(.loc 193,.pmap 3 6 8 pm8 none),(.loc 576,.cells [.d (.int .i64 z12),.d (.int .i64 z13),.d (.int .i64 z14),.d (.int .u8 z15),.d (.int .i64 z16),.d (.str s17),.d (.list true 6 l18),.d (.int .i64 z19),.d (.list false 1 l20)])],832⟩) (fun t=>t.1≤m3∧L9_5 t.1 l1 z2 z6 pm7 pm8 z12 z13 z15 z16 s17 l18 z19 l20 t.2=some r1) ?_ ?_
  ·try cbv
   refine splitI (fun e=>?_) (fun e=>?_)
   ·replace h:=ite_t e h
    clear e
    try cbv
    exact join_next (m3,true) [0,1,4,5,6,7,8,31,50] [.loc 160,.loc 161,.loc 192,.loc 193,.loc 576] 832 ⟨by omega,h⟩ (by cbv)
   replace h:=ite_f e h
   clear e
   try cbv
   exact join_next (m3,false) [0,1,4,5,6,7,8,31,50] [.loc 160,.loc 161,.loc 192,.loc 193,.loc 576] 832 ⟨by omega,h⟩ (by cbv)
  clear h
  rintro⟨m5,b25⟩ ⟨hm5,h⟩
  replace hm5:m5≤m3:=hm5
  obtain _ | m5:=m5
  ·replace h:L9_5 0 l1 z2 z6 pm7 pm8 z12 z13 z15 z16 s17 l18 z19 l20 b25=some r1:=h
   rw[L9_5]at h
   cases h
  replace h:L9_5 (m5+1) l1 z2 z6 pm7 pm8 z12 z13 z15 z16 s17 l18 z19 l20 b25=some r1:=h
  rw[L9_5]at h
  try cbv
  cases b25
  rotate_left
  ·replace h:=ite_t rfl h
   try cbv
   exact join_next (m5,true) [0,1,4,5,6,7,8,31,50] [.loc 160,.loc 161,.loc 192,.loc 193,.loc 576] 960 ⟨by omega,h⟩ (by cbv)
  replace h:=ite_f Bool.false_ne_true h
  try cbv
  refine seq_join (T:=Nat×Bool) (fun t=>⟨[(0,.v (.d (.list true 9 l1))),(1,.v (.d (.int .i64 z2))),(4,.v (.d (.bool false))),(5,.v (.c (.ptr (.loc 160) 0))),(6,.v (.c (.ptr (.loc 192) 0))),(7,.v (.d (.int .i64 z6))),(8,.v (.c (.ptr (.loc 576) 0))),(31,.v (.d (.int .i64 z12))),(50,.v (.d (.bool t.2)))],[(.loc 160,.cells [.ow (.loc 161)]),(.loc 161,.pmap 3 6 8 pm7 none),(.loc 192,.cells [.ow (.loc 193)]),(.loc 193,.pmap 3 6 8 pm8 none),(.loc 576,.cells [.d (.int .i64 z12),.d (.int .i64 z13),.d (.int .i64 z14),.d (.int .u8 z15),.d (.int .i64 z16),.d (.str s17),.d (.list true 6 l18),.d (.int .i64 z19),.d (.list false 1 l20)])],896⟩) (fun t=>t.1≤m5∧L9_6 t.1 l1 z2 z6 pm7 pm8 z12 z13 z15 z16 s17 l18 z19 l20 t.2=some r1) ?_ ?_
  ·try cbv
   refine splitI (fun e=>?_) (fun e=>?_)
   ·replace h:=ite_t e h
    clear e
    try cbv
    exact join_next (m5,true) [0,1,4,5,6,7,8,31,50] [.loc 160,.loc 161,.loc 192,.loc 193,.loc 576] 896 ⟨by omega,h⟩ (by cbv)
   replace h:=ite_f e h
   clear e
   try cbv
   exact join_next (m5,false) [0,1,4,5,6,7,8,31,50] [.loc 160,.loc 161,.loc 192,.loc 193,.loc 576] 896 ⟨by omega,h⟩ (by cbv)
  clear h
  rintro⟨m6,b26⟩ ⟨hm6,h⟩
  replace hm6:m6≤m5:=hm6
  obtain _ | m6:=m6
  ·replace h:L9_6 0 l1 z2 z6 pm7 pm8 z12 z13 z15 z16 s17 l18 z19 l20 b26=some r1:=h
   rw[L9_6]at h
   cases h
  replace h:L9_6 (m6+1) l1 z2 z6 pm7 pm8 z12 z13 z15 z16 s17 l18 z19 l20 b26=some r1:=h
  rw[L9_6]at h
  try cbv
  cases b26
  ·replace h:=ite_f Bool.false_ne_true h
   try cbv
   refine splitI (fun e=>?_) (fun e=>?_)
   ·replace h:=ite_t e h
    clear e
    try cbv
    exact join_next (m6,true) [0,1,4,5,6,7,8,31,50] [.loc 160,.loc 161,.loc 192,.loc 193,.loc 576] 960 ⟨by omega,h⟩ (by cbv)
   replace h:=ite_f e h
   clear e
   try cbv
   exact join_next (m6,false) [0,1,4,5,6,7,8,31,50] [.loc 160,.loc 161,.loc 192,.loc 193,.loc 576] 960 ⟨by omega,h⟩ (by cbv)
  replace h:=ite_t rfl h
  try cbv
  exact join_next (m6,true) [0,1,4,5,6,7,8,31,50] [.loc 160,.loc 161,.loc 192,.loc 193,.loc 576] 960 ⟨by omega,h⟩ (by cbv)
 clear h
 rintro⟨m7,b27⟩ ⟨hm7,h⟩
 replace hm7:m7≤m3:=hm7
 obtain _ | m7:=m7
 ·replace h:L9_7 0 l1 z2 z6 pm7 pm8 z12 z13 z15 z16 s17 l18 z19 l20 b27=some r1:=h
  rw[L9_7]at h
  cases h
 replace h:L9_7 (m7+1) l1 z2 z6 pm7 pm8 z12 z13 z15 z16 s17 l18 z19 l20 b27=some r1:=h
 rw[L9_7]at h
 try cbv
 cases b27
 rotate_left
 ·replace h:=ite_t rfl h
  try cbv
  refine seq_go ?_
  try cbv
  replace h:=bO2_inv h
  obtain⟨b28,pm29,hr,h⟩:=h
  refine call_go rfl rfl ?_
  try cbv
  refine call_with hM hI [.loc 160,.loc 161] (T39 _ hr) rfl (by simp) ⟨rfl,⟨rfl,trivial⟩⟩ ⟨trivial,⟨trivial,trivial⟩⟩ (by simp) ?_
  clear hr
  try cbv
  refine seq_join (T:=Nat×Bool×(List PRow)) (fun t=>⟨[(0,.v (.d (.list true 9 l1))),(1,.v (.d (.int .i64 z2))),(4,.v (.d (.bool false))),(5,.v (.c (.ptr (.loc 160) 0))),(6,.v (.c (.ptr (.loc 192) 0))),(7,.v (.d (.int .i64 z6))),(8,.v (.c (.ptr (.loc 576) 0))),(31,.v (.d (.int .i64 z12))),(50,.v (.d (.bool true))),(73,.v (.d (.bool t.2.1)))],[(.loc 160,.cells [.ow (.loc 161)]),(.loc 161,.pmap 3 6 8 pm29 none),(.loc 192,.cells [.ow (.loc 193)]),(.loc 193,.pmap 3 6 8 t.2.2 none),(.loc 576,.cells [.d (.int .i64 z12),.d (.int .i64 z13),.d (.int .i64 z14),.d (.int .u8 z15),.d (.int .i64 z16),.d (.str s17),.d (.list true 6 l18),.d (.int .i64 z19),.d (.list false 1 l20)])],1632⟩) (fun t=>t.1≤m7∧L9_8 t.1 l1 z2 z6 pm29 t.2.1 t.2.2=some r1) ?_ ?_
  ·try cbv
   refine splitI (fun e=>?_) (fun e=>?_)
   ·replace h:=ite_t e h
    clear e
    try cbv
    replace h:=bO2_inv h
    obtain⟨b30,pm31,hr,h⟩:=h
    refine call_go rfl rfl ?_
    try cbv
    refine call_with hM hI [.loc 192,.loc 193] (T39 _ hr) rfl (by simp) ⟨rfl,⟨rfl,trivial⟩⟩ ⟨trivial,⟨trivial,trivial⟩⟩ (by simp) ?_
    clear hr
    try cbv
    replace h:=letB_inv h
    obtain⟨b32,hz,h⟩:=h
    refine⟨b32,eqv_ne hz,?_⟩
    clear hz
    try cbv
    exact join_next (m7,(b32,pm31)) [0,1,4,5,6,7,8,31,50,73] [.loc 160,.loc 161,.loc 192,.loc 193,.loc 576] 1632 ⟨by omega,h⟩ (by cbv)
   replace h:=ite_f e h
   clear e
   try cbv
   exact join_next (m7,(false,pm8)) [0,1,4,5,6,7,8,31,50,73] [.loc 160,.loc 161,.loc 192,.loc 193,.loc 576] 1632 ⟨by omega,h⟩ (by cbv)
  clear h
  rintro⟨m8,b33,pm34⟩ ⟨hm8,h⟩
  replace hm8:m8≤m7:=hm8
  obtain _ | m8:=m8
  ·replace h:L9_8 0 l1 z2 z6 pm29 b33 pm34=some r1:=h
   rw[L9_8]at h
   cases h
  replace h:L9_8 (m8+1) l1 z2 z6 pm29 b33 pm34=some r1:=h
  rw[L9_8]at h
  try cbv
  cases b33
  ·replace h:=ite_f Bool.false_ne_true h
   try cbv
   exact join_next (m8,(pm29,pm34)) [0,1,4,5,6,7] [.loc 160,.loc 161,.loc 192,.loc 193] 2144 ⟨by omega,h⟩ (by cbv)
  replace h:=ite_t rfl h
  try cbv
  refine seq_go ?_
  try cbv
  obtain rfl:=Option.some.inj h
  refine fin_go ?_
  try cbv
  exact⟨[],rfl,rfl,trivial,trivial,trivial⟩
 replace h:=ite_f Bool.false_ne_true h
 try cbv
 refine seq_join (T:=Nat×Bool) (fun t=>⟨[(0,.v (.d (.list true 9 l1))),(1,.v (.d (.int .i64 z2))),(4,.v (.d (.bool false))),(5,.v (.c (.ptr (.loc 160) 0))),(6,.v (.c (.ptr (.loc 192) 0))),(7,.v (.d (.int .i64 z6))),(8,.v (.c (.ptr (.loc 576) 0))),(50,.v (.d (.bool false))),(74,.v (.d (.bool t.2)))],[(.loc 160,.cells [.ow (.loc 161)]),(.loc 161,.pmap 3 6 8 pm7 none),(.loc 192,.cells [.ow (.loc 193)]),(.loc 193,.pmap 3 6 8 pm8 none),(.loc 576,.cells [.d (.int .i64 z12),.d (.int .i64 z13),.d (.int .i64 z14),.d (.int .u8 z15),.d (.int .i64 z16),.d (.str s17),.d (.list true 6 l18),.d (.int .i64 z19),.d (.list false 1 l20)])],1088⟩) (fun t=>t.1≤m7∧L9_10 t.1 l1 z2 z6 pm7 pm8 z13 t.2=some r1) ?_ ?_
 ·try cbv
  refine seq_join (T:=Nat×Bool) (fun t=>⟨[(0,.v (.d (.list true 9 l1))),(1,.v (.d (.int .i64 z2))),(4,.v (.d (.bool false))),(5,.v (.c (.ptr (.loc 160) 0))),(6,.v (.c (.ptr (.loc 192) 0))),(7,.v (.d (.int .i64 z6))),(8,.v (.c (.ptr (.loc 576) 0))),(31,.v (.d (.int .i64 z12))),(50,.v (.d (.bool false))),(74,.v (.d (.bool t.2)))],[(.loc 160,.cells [.ow (.loc 161)]),(.loc 161,.pmap 3 6 8 pm7 none),(.loc 192,.cells [.ow (.loc 193)]),(.loc 193,.pmap 3 6 8 pm8 none),(.loc 576,.cells [.d (.int .i64 z12),.d (.int .i64 z13),.d (.int .i64 z14),.d (.int .u8 z15),.d (.int .i64 z16),.d (.str s17),.d (.list true 6 l18),.d (.int .i64 z19),.d (.list false 1 l20)])],1024⟩) (fun t=>t.1≤m7∧L9_9 t.1 l1 z2 z6 pm7 pm8 z12 z13 t.2=some r1) ?_ ?_
  ·try cbv
   refine splitI (fun e=>?_) (fun e=>?_)
   ·replace h:=ite_t e h
    clear e
    try cbv
    exact join_next (m7,true) [0,1,4,5,6,7,8,31,50,74] [.loc 160,.loc 161,.loc 192,.loc 193,.loc 576] 1024 ⟨by omega,h⟩ (by cbv)
   replace h:=ite_f e h
   clear e
   try cbv
   exact join_next (m7,false) [0,1,4,5,6,7,8,31,50,74] [.loc 160,.loc 161,.loc 192,.loc 193,.loc 576] 1024 ⟨by omega,h⟩ (by cbv)
  clear h
  rintro⟨m9,b35⟩ ⟨hm9,h⟩
  replace hm9:m9≤m7:=hm9
  obtain _ | m9:=m9
  ·replace h:L9_9 0 l1 z2 z6 pm7 pm8 z12 z13 b35=some r1:=h
   rw[L9_9]at h
   cases h
  replace h:L9_9 (m9+1) l1 z2 z6 pm7 pm8 z12 z13 b35=some r1:=h
  rw[L9_9]at h
  try cbv
  cases b35
  ·replace h:=ite_f Bool.false_ne_true h
   try cbv
   refine splitI (fun e=>?_) (fun e=>?_)
   ·replace h:=ite_t e h
    clear e
    try cbv
    exact join_next (m9,true) [0,1,4,5,6,7,8,50,74] [.loc 160,.loc 161,.loc 192,.loc 193,.loc 576] 1088 ⟨by omega,h⟩ (by cbv)
   replace h:=ite_f e h
   clear e
   try cbv
   exact join_next (m9,false) [0,1,4,5,6,7,8,50,74] [.loc 160,.loc 161,.loc 192,.loc 193,.loc 576] 1088 ⟨by omega,h⟩ (by cbv)
  replace h:=ite_t rfl h
  try cbv
  exact join_next (m9,true) [0,1,4,5,6,7,8,50,74] [.loc 160,.loc 161,.loc 192,.loc 193,.loc 576] 1088 ⟨by omega,h⟩ (by cbv)
 clear h
 rintro⟨m10,b36⟩ ⟨hm10,h⟩
 replace hm10:m10≤m7:=hm10
 obtain _ | m10:=m10
 ·replace h:L9_10 0 l1 z2 z6 pm7 pm8 z13 b36=some r1:=h
  rw[L9_10]at h
  cases h
 replace h:L9_10 (m10+1) l1 z2 z6 pm7 pm8 z13 b36=some r1:=h
 rw[L9_10]at h
 try cbv
 cases b36
 ·replace h:=ite_f Bool.false_ne_true h
  try cbv
  exact join_next (m10,(pm7,pm8)) [0,1,4,5,6,7] [.loc 160,.loc 161,.loc 192,.loc 193] 2144 ⟨by omega,h⟩ (by cbv)
 replace h:=ite_t rfl h
 try cbv
 refine seq_go ?_
 try cbv
 replace h:=bO8_inv h
 obtain⟨z37,z38,s39,l40,z41,l42,b43,pm44,hr,h⟩:=h
 refine call_go rfl rfl ?_
 try cbv
 refine call_with hM hI [.loc 160,.loc 161] (T38 _ hr) rfl (by simp) ⟨rfl,⟨rfl,trivial⟩⟩ ⟨trivial,⟨trivial,trivial⟩⟩ (by simp) ?_
 clear hr
 try cbv
 refine seq_join (T:=Nat×Bool) (fun t=>⟨[(0,.v (.d (.list true 9 l1))),(1,.v (.d (.int .i64 z2))),(4,.v (.d (.bool false))),(5,.v (.c (.ptr (.loc 160) 0))),(6,.v (.c (.ptr (.loc 192) 0))),(7,.v (.d (.int .i64 z6))),(8,.v (.c (.ptr (.loc 576) 0))),(10,.v (.c (.ptr (.loc 1312) 0))),(11,.v (.d (.bool b43))),(50,.v (.d (.bool false))),(74,.v (.d (.bool true))),(87,.v (.d (.bool t.2)))],[(.loc 160,.cells [.ow (.loc 161)]),(.loc 161,.pmap 3 6 8 pm44 none),(.loc 192,.cells [.ow (.loc 193)]),(.loc 193,.pmap 3 6 8 pm8 none),(.loc 576,.cells [.d (.int .i64 z12),.d (.int .i64 z13),.d (.int .i64 z14),.d (.int .u8 z15),.d (.int .i64 z16),.d (.str s17),.d (.list true 6 l18),.d (.int .i64 z19),.d (.list false 1 l20)]),(.loc 1312,.cells [.d (.int .u8 z37),.d (.int .i64 z38),.d (.str s39),.d (.list true 6 l40),.d (.int .i64 z41),.d (.list false 1 l42)])],1536⟩) (fun t=>t.1≤m10∧L9_11 t.1 l1 z2 z6 pm8 z13 z37 z38 s39 l40 z41 l42 b43 pm44 t.2=some r1) ?_ ?_
 ·try cbv
  refine splitI (fun e=>?_) (fun e=>?_)
  ·replace h:=ite_t e h
   clear e
   try cbv
   exact join_next (m10,true) [0,1,4,5,6,7,8,10,11,50,74,87] [.loc 160,.loc 161,.loc 192,.loc 193,.loc 576,.loc 1312] 1536 ⟨by omega,h⟩ (by cbv)
  replace h:=ite_f e h
  clear e
  try cbv
  exact join_next (m10,false) [0,1,4,5,6,7,8,10,11,50,74,87] [.loc 160,.loc 161,.loc 192,.loc 193,.loc 576,.loc 1312] 1536 ⟨by omega,h⟩ (by cbv)
 clear h
 rintro⟨m11,b45⟩ ⟨hm11,h⟩
 replace hm11:m11≤m10:=hm11
 obtain _ | m11:=m11
 ·replace h:L9_11 0 l1 z2 z6 pm8 z13 z37 z38 s39 l40 z41 l42 b43 pm44 b45=some r1:=h
  rw[L9_11]at h
  cases h
 replace h:L9_11 (m11+1) l1 z2 z6 pm8 z13 z37 z38 s39 l40 z41 l42 b43 pm44 b45=some r1:=h
 rw[L9_11]at h
 try cbv
 cases b45
 ·replace h:=ite_f Bool.false_ne_true h
  try cbv
  exact join_next (m11,(pm44,pm8)) [0,1,4,5,6,7] [.loc 160,.loc 161,.loc 192,.loc 193] 2144 ⟨by omega,h⟩ (by cbv)
 replace h:=ite_t rfl h
 try cbv
 refine seq_go ?_
 try cbv
 replace h:=bO8_inv h
 obtain⟨z46,z47,s48,l49,z50,l51,b52,pm53,hr,h⟩:=h
 refine call_go rfl rfl ?_
 try cbv
 refine call_with hM hI [.loc 192,.loc 193] (T38 _ hr) rfl (by simp) ⟨rfl,⟨rfl,trivial⟩⟩ ⟨trivial,⟨trivial,trivial⟩⟩ (by simp) ?_
 clear hr
 try cbv
 refine seq_join (T:=Nat×Bool) (fun t=>⟨[(0,.v (.d (.list true 9 l1))),(1,.v (.d (.int .i64 z2))),(4,.v (.d (.bool false))),(5,.v (.c (.ptr (.loc 160) 0))),(6,.v (.c (.ptr (.loc 192) 0))),(7,.v (.d (.int .i64 z6))),(50,.v (.d (.bool false))),(74,.v (.d (.bool true))),(103,.v (.d (.bool t.2)))],[(.loc 160,.cells [.ow (.loc 161)]),(.loc 161,.pmap 3 6 8 pm44 none),(.loc 192,.cells [.ow (.loc 193)]),(.loc 193,.pmap 3 6 8 pm53 none)],2144⟩) (fun t=>t.1≤m11∧L9_12 t.1 l1 z2 z6 pm44 pm53 t.2=some r1) ?_ ?_
 ·try cbv
  replace h:=letB_inv h
  obtain⟨b54,hz,h⟩:=h
  refine⟨b54,eqv_ne hz,?_⟩
  clear hz
  try cbv
  cases b54
  ·replace h:=ite_f Bool.false_ne_true h
   try cbv
   replace h:=bO1_inv h
   obtain⟨b55,hr,h⟩:=h
   refine call_go rfl rfl ?_
   try cbv
   refine call_pure hM hI (T34 _ hr) rfl ?_
   clear hr
   try cbv
   replace h:=letB_inv h
   obtain⟨b56,hz,h⟩:=h
   refine⟨b56,not_eq' hz,?_⟩
   clear hz
   try cbv
   exact join_next (m11,b56) [0,1,4,5,6,7,50,74,103] [.loc 160,.loc 161,.loc 192,.loc 193] 2144 ⟨by omega,h⟩ (by cbv)
  replace h:=ite_t rfl h
  try cbv
  exact join_next (m11,true) [0,1,4,5,6,7,50,74,103] [.loc 160,.loc 161,.loc 192,.loc 193] 2144 ⟨by omega,h⟩ (by cbv)
 clear h
 rintro⟨m12,b57⟩ ⟨hm12,h⟩
 replace hm12:m12≤m11:=hm12
 obtain _ | m12:=m12
 ·replace h:L9_12 0 l1 z2 z6 pm44 pm53 b57=some r1:=h
  rw[L9_12]at h
  cases h
 replace h:L9_12 (m12+1) l1 z2 z6 pm44 pm53 b57=some r1:=h
 rw[L9_12]at h
 try cbv
 cases b57
 ·replace h:=ite_f Bool.false_ne_true h
  try cbv
  exact join_next (m12,(pm44,pm53)) [0,1,4,5,6,7] [.loc 160,.loc 161,.loc 192,.loc 193] 2144 ⟨by omega,h⟩ (by cbv)
 replace h:=ite_t rfl h
 try cbv
 refine seq_go ?_
 try cbv
 obtain rfl:=Option.some.inj h
 refine fin_go ?_
 try cbv
 exact⟨[],rfl,rfl,trivial,trivial,trivial⟩
end Go.Proofs.Ytiiojajgajnhpaa
end
set_option linter.unusedVariables false
noncomputable section
namespace Go.Proofs.Ytiiojajgajnhpaa
open Go Go.AM
theorem make_ne {y z r:Int}(h:y≠z) (S:List Ch):getC y (makeC z r S)=getC y S:=by
 unfold makeC
 cases hz:getC z S with
 | some c=>rfl
 | none=>
  simp only
  split
  ·rfl
  ·rw[getC_app]
   cases getC y S with
   | some d=>rfl
   | none=>simp only;rw[if_neg (fun e=>h e.symm)]
theorem make_eq {z r:Int}{S S':List Ch}(h:getC z S=getC z S'):getC z (makeC z r S)=getC z (makeC z r S'):=by
 unfold makeC
 rw[←h]
 cases hz:getC z S with
 | some c=>simp only;rw[←h,hz]
 | none=>
  simp only
  split
  ·exact h
  ·rw[getC_app,getC_app,←h]
theorem push_ne {y z:Int}{v:VV}(h:y≠z) (S:List Ch):getC y (pushC z v S).2=getC y S:=by
 unfold pushC
 cases hz:getC z S with
 | none=>rfl
 | some c=>
  simp only
  split
  ·rfl
  ·rw[getC_upd (c':={c with q:=c.q++[v]}) (show c.key=z from getC_key hz) hz,if_neg h]
theorem push_eq {z:Int}{v:VV}{S S':List Ch}(h:getC z S=getC z S'):(pushC z v S).1=(pushC z v S').1∧getC z (pushC z v S).2=getC z (pushC z v S').2:=by
 unfold pushC
 rw[←h]
 cases hz:getC z S with
 | none=>exact⟨rfl,by simp only;exact h⟩
 | some c=>
  simp only
  split
  ·exact⟨rfl,h⟩
  ·refine⟨rfl,?_⟩
   rw[getC_upd (c':={c with q:=c.q++[v]}) (show c.key=z from getC_key hz) hz,getC_upd (c':={c with q:=c.q++[v]}) (show c.key=z from getC_key hz) (h▸hz),if_pos rfl,if_pos rfl]
theorem pop_ne {y z:Int}(h:y≠z) (S:List Ch):getC y (popC z S).2.2=getC y S:=by
 unfold popC
 cases hz:getC z S with
 | none=>rfl
 | some c=>
  simp only
  cases hq:c.q with
  | nil=>rfl
  | cons v q=>
   simp only
   rw[getC_upd (c':={c with q:=q}) (show c.key=z from getC_key hz) hz,if_neg h]
theorem pop_eq {z:Int}{S S':List Ch}(h:getC z S=getC z S'):(popC z S).1=(popC z S').1∧(popC z S).2.1=(popC z S').2.1∧getC z (popC z S).2.2=getC z (popC z S').2.2:=by
 unfold popC
 rw[←h]
 cases hz:getC z S with
 | none=>exact⟨rfl,rfl,by simp only;exact h⟩
 | some c=>
  simp only
  cases hq:c.q with
  | nil=>exact⟨rfl,rfl,h⟩
  | cons v q=>
   refine⟨rfl,rfl,?_⟩
   simp only
   rw[getC_upd (c':={c with q:=q}) (show c.key=z from getC_key hz) hz,getC_upd (c':={c with q:=q}) (show c.key=z from getC_key hz) (h▸hz),if_pos rfl,if_pos rfl]
theorem zero_VT:VT zeroV:=⟨rfl,rfl,(show ByteArray.empty.size≤maxLen by decide),.nil,rfl,.nil⟩
theorem pop_VT {z:Int}{pm:List PRow}{S:List Ch}(h:QOK pm S):VT (popC z S).1:=by
 unfold popC
 cases hz:getC z S with
 | none=>exact zero_VT
 | some c=>
  simp only
  cases hq:c.q with
  | nil=>exact zero_VT
  | cons v q=>exact ((QOK.vs h c (getC_mem hz)).2.2.2 v (by rw[hq];simp)).t
theorem full_eq {z:Int}{S S':List Ch}(h:getC z S=getC z S'):fullC z S=fullC z S':=by unfold fullC;rw[h]
theorem empty_eq {z:Int}{S S':List Ch}(h:getC z S=getC z S'):emptyC z S=emptyC z S':=by unfold emptyC;rw[h]
theorem ev_true_F48 {l:List VV}(h:∀v∈l,VS v) (hl:l.length≤1000) {L M:List D}(hL:L=R l) (hM:M=R l):Ev (fun n=>bO1 (F48 n L M) fun b=>some b) true:=by
 subst hL hM
 exact Ev.bO1 (sameR h hl) .ret
theorem apart_end {z2:Int}{S S':List Ch}{pm pm':List PRow}(h:QOK pm S) (h':QOK pm' S') (e:getC z2 S=getC z2 S') (i:Int) (l:List D):Ev (fun n=>L9_2 n l z2 i pm pm' false) true:=by
 refine .succ ?_
 simp only[L9_2,Bool.false_eq_true,if_false]
 cases hz:getC z2 S with
 | none=>
  refine Ev.bSr (evDropN h hz) ?_
  refine Ev.bSr (evDropN h' (e▸hz)) ?_
  exact ev_true_F48 (l:=[]) (by simp) (by simp) rfl rfl
 | some c=>
  obtain⟨p2,e2,_⟩:=evDropS h hz
  obtain⟨p3,e3,_⟩:=evDropS h' (e▸hz)
  refine Ev.bSl e2 ?_
  show Ev (fun n=>bS (F42 n z2 pm') _ _) true
  refine Ev.bSl e3 ?_
  obtain⟨q1,q2,q3,q4⟩:=QOK.vs h c (getC_mem hz)
  exact ev_true_F48 q4 (by omega) rfl rfl
theorem apart_loop {z2:Int}{l:List D}(hl:ListS tab 61 l) (hvs:∀(j:Nat) (a:QA),l[j]?=some a.row→VS a.v):
  ∀i:Nat,i≤l.length→∀(S S':List Ch) (pm pm':List PRow),QOK pm S→QOK pm' S'→getC z2 S=getC z2 S'→Ev (fun n=>L9_1 n l z2 (i:Int) pm pm') true:=by
 refine down l.length ?_ ?_
 ·intro S S' pm pm' h h' e
  refine .succ ?_
  simp only[L9_1,lenF,Int.lt_irrefl,if_false]
  exact apart_end h h' e _ _
 ·intro i hi ih S S' pm pm' h h' e
  obtain⟨x,hx,_,hr⟩:=hl.get hi
  obtain⟨a,rfl,ha⟩:=actQ hr
  have hav:=hvs i a hx
  have next:∀(S S':List Ch) (pm pm':List PRow),QOK pm S→QOK pm' S'→getC z2 S=getC z2 S'→Ev (fun n=>L9_13 n l z2 (i:Int) pm pm') true:=by
   intro S S' pm pm' h h' e
   obtain⟨p1,e1,k1⟩:=evFull h z2
   obtain⟨p2,e2,k2⟩:=evFull h' z2
   obtain⟨p3,e3,k3⟩:=evEmpty k1 z2
   obtain⟨p4,e4,k4⟩:=evEmpty k2 z2
   refine .succ ?_
   simp only[L9_13]
   refine Ev.bO2 e1 (Ev.bO2 e2 ?_)
   simp only[full_eq e,letB,beq_self_eq_true,Bool.not_true,Bool.false_eq_true,if_false]
   refine Ev.bO2 e3 (Ev.bO2 e4 ?_)
   simp only[empty_eq e,letB,beq_self_eq_true,Bool.not_true]
   refine .succ ?_
   simp only[L9_14,Bool.false_eq_true,if_false,letF,wrap_succ hi hl.1]
   exact ih S S' p3 p4 k3 k4 e
  have pushes:Ev (fun n=>L9_7 n l z2 (i:Int) pm pm' a.kd a.id a.v.k a.v.i a.v.nm a.v.fs a.v.id a.v.pt true) true:=by
   obtain⟨p1,e1,k1⟩:=evPu h a.id hav (b:=(pushC a.id a.v S).1) (S':=(pushC a.id a.v S).2) rfl
   refine .succ ?_
   simp only[L9_7,if_true]
   refine Ev.bO2 e1 ?_
   by_cases c:a.id=z2
   ·simp only[if_pos c]
    obtain⟨p2,e2,k2⟩:=evPu h' a.id hav (b:=(pushC a.id a.v S').1) (S':=(pushC a.id a.v S').2) rfl
    obtain⟨g1,g2⟩:=push_eq (v:=a.v) (show getC a.id S=getC a.id S' by rw[c];exact e)
    refine Ev.bO2 e2 ?_
    simp only[g1,letB,beq_self_eq_true,Bool.not_true]
    refine .succ ?_
    simp only[L9_8,Bool.false_eq_true,if_false]
    exact next _ _ _ _ k1 k2 (by rw[←c];exact g2)
   ·simp only[if_neg c]
    refine .succ ?_
    simp only[L9_8,Bool.false_eq_true,if_false]
    exact next _ _ _ _ k1 h' (by rw[push_ne (fun h=>c h.symm)];exact e)
  have pops:Ev (fun n=>L9_10 n l z2 (i:Int) pm pm' a.id true) true:=by
   obtain⟨p1,e1,k1⟩:=evPo h a.id (v:=(popC a.id S).1) (b:=(popC a.id S).2.1) (S':=(popC a.id S).2.2) rfl
   refine .succ ?_
   simp only[L9_10,if_true]
   refine Ev.bO8 e1 ?_
   by_cases c:a.id=z2
   ·simp only[if_pos c]
    obtain⟨p2,e2,k2⟩:=evPo h' a.id (v:=(popC a.id S').1) (b:=(popC a.id S').2.1) (S':=(popC a.id S').2.2) rfl
    obtain⟨g1,g2,g3⟩:=pop_eq (show getC a.id S=getC a.id S' by rw[c];exact e)
    refine .succ ?_
    simp only[L9_11,if_true]
    refine Ev.bO8 e2 ?_
    simp only[←g2,letB,beq_self_eq_true,Bool.not_true,Bool.false_eq_true,if_false]
    have hv:=pop_VT (z:=a.id) h
    refine Ev.bO1 (by rw[←g1];exact ev11 hv hv) ?_
    simp only[decide_true,Bool.not_true]
    refine .succ ?_
    simp only[L9_12,Bool.false_eq_true,if_false]
    exact next _ _ _ _ k1 k2 (by rw[←c];exact g3)
   ·simp only[if_neg c]
    refine .succ ?_
    simp only[L9_11,Bool.false_eq_true,if_false]
    exact next _ _ _ _ k1 h' (by rw[pop_ne (fun h=>c h.symm)];exact e)
  refine .succ ?_
  simp only[L9_1,lenF,if_pos (ilt hi)]
  refine .succ ?_
  simp only[L9_2,if_true,getF_nat hx,dsq]
  by_cases c0:a.kd=0
  ·simp only[if_pos c0]
   obtain⟨p1,e1,k1⟩:=evMk h a.id a.rm rfl
   refine .succ ?_
   simp only[L9_3,if_true]
   refine Ev.bO1 e1 ?_
   by_cases c:a.id=z2
   ·simp only[if_pos c]
    obtain⟨p2,e2,k2⟩:=evMk h' a.id a.rm rfl
    refine .succ ?_
    simp only[L9_4,if_true]
    refine Ev.bO1 e2 ?_
    exact next _ _ _ _ k1 k2 (by rw[←c];exact make_eq (by rw[c];exact e))
   ·simp only[if_neg c]
    refine .succ ?_
    simp only[L9_4,Bool.false_eq_true,if_false]
    exact next _ _ _ _ k1 h' (by rw[make_ne (fun h=>c h.symm)];exact e)
  ·simp only[if_neg c0]
   refine .succ ?_
   simp only[L9_3,Bool.false_eq_true,if_false]
   by_cases c1:a.kd=1
   ·simp only[if_pos c1]
    refine .succ ?_
    simp only[L9_5,if_true]
    exact pushes
   ·simp only[if_neg c1]
    refine .succ ?_
    simp only[L9_5,Bool.false_eq_true,if_false]
    by_cases c2:a.kd=2
    ·simp only[if_pos c2]
     refine .succ ?_
     simp only[L9_6,if_true]
     exact pushes
    ·simp only[if_neg c2]
     refine .succ ?_
     simp only[L9_6,Bool.false_eq_true,if_false]
     by_cases c3:a.kd=3
     ·simp only[if_pos c3]
      exact pushes
     ·simp only[if_neg c3]
      refine .succ ?_
      simp only[L9_7,Bool.false_eq_true,if_false]
      by_cases c4:a.kd=4
      ·simp only[if_pos c4]
       refine .succ ?_
       simp only[L9_9,if_true]
       exact pops
      ·simp only[if_neg c4]
       refine .succ ?_
       simp only[L9_9,Bool.false_eq_true,if_false]
       by_cases c5:a.kd=5
       ·simp only[if_pos c5]
        exact pops
       ·simp only[if_neg c5]
        refine .succ ?_
        simp only[L9_10,Bool.false_eq_true,if_false]
        exact next _ _ _ _ h h' e
theorem apart_law (z2:Int) {l:List D}(hl:ListS tab 61 l):Ev (fun n=>F9 n l z2) true:=by
 have f43:∀n,F43 n=some ():=fun n=>rfl
 unfold F9
 refine Ev.bO1 ev_awake ?_
 simp only[letB,Bool.not_true,Bool.false_eq_true,if_false]
 obtain⟨b,b1,b2⟩:=great hl
 refine Ev.bO1 b1 ?_
 cases b with
 | true=>simp only[if_true];exact .ret
 | false=>
  simp only[Bool.false_eq_true,if_false]
  exact Ev.bO0 (.of f43) (Ev.bO0 (.of f43) (apart_loop hl (b2 rfl).2 0 (Nat.zero_le _) [] [] [] [] trivial trivial rfl))
theorem queues_apart_trip:∀xs:List D,Shapes tab [63,3] xs→Trip Try.prog inv 9 (xs.map V1.d) [] (.v (.d (.bool true))) [] []:=by
 intro xs h
 match xs,h with
 | [u,v],⟨u1,u2,v1,v2,_⟩=>
  obtain⟨l,rfl,hl⟩:=rs63 ⟨u1,u2⟩
  obtain⟨a,rfl,_⟩:=rs3 ⟨v1,v2⟩
  obtain⟨n,hn⟩:=(apart_law a hl).run
  exact T9 n hn
end Go.Proofs.Ytiiojajgajnhpaa
end
namespace Go.Proofs.Ytiiojajgajnhpaa
open Go Go.ChangeShapes Go.WideShapes Go.ChangeAt Go.RowKit Go.AM
theorem queues_apart_reads:∀t∈[63,3],Try.prog.readableRec t=true∧t<Try.prog.types.size:=by
 have h:([63,3].all fun t=>Try.prog.readableRec t&&decide (t<Try.prog.types.size))=true:=by kernel_rfl
 intro t ht
 have:=List.all_eq_true.1 h t ht
 simpa using this
set_option maxRecDepth 100000 in
theorem queues_apart_lifted (os:Os) (started:os.Started) (H:Type) (enc:TypeId×Value→H):
  ReturnsInHanded {} Try.checked os 9 .any (Rows.queuesApartSpec.pre6 enc Try.prog Try.f9 Rows.queuesApartRow.domain false) (Rows.queuesApartSpec.post enc Try.prog Try.f9 false true false false):=by
 refine returnsInHanded_of_change (C:=Try.checked) (by kernel_rfl) started (by kernel_rfl) Try.func9
  (ChangeSpec.witness6 (enc:=enc) (C:=Try.checked) false ⟨#[],#[.slice none 0 0,.int .i64 0],[]⟩ 8 (by kernel_rfl) (by kernel_rfl) (by kernel_rfl) (by kernel_rfl)) ?_
 intro W base args ds gs before hval0 hW _ _
 refine law_calls (ti:=tab) (T:=[2,3,5,9,46,47,49,61,63]) tab_ok (by kernel_rfl) (ts:=[63,3]) (bt:=4) rfl rfl rfl (by kernel_rfl) (by decide) ?_ (by kernel_rfl) queues_apart_reads queues_apart_trip ⟨trivial,fun _ h=>h.elim⟩ hval0 hW
 intro ds h
 match ds,h with
 | [_,_],_=>exact⟨rfl,rfl,rfl⟩
theorem queues_apart:Rows.QueuesApartSaid:=
 OpenClaim.holds_of_wide 9 Try.f9 rfl rfl rfl rfl rfl rfl rfl ⟨rfl,rfl,rfl,rfl,rfl⟩ rfl rfl rfl rfl rfl (by kernel_rfl) Try.func9 (by kernel_rfl)
  (of_decide_eq_true (by kernel_rfl)) (by unfold Func.isWrapper;first | (rw[if_pos (by decide+kernel)];kernel_rfl) | (rw[if_neg (by decide+kernel)];exact⟨rfl,rfl⟩))
  (fun os started H enc _=>queues_apart_lifted os started H enc)
end Go.Proofs.Ytiiojajgajnhpaa
