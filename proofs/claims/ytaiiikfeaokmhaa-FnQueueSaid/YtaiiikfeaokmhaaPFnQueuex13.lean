import Derived.Test.YtaiiikfeaokmhaaPFnQueuex0
import Derived.Test.YtaiiikfeaokmhaaPFnQueuex3
import Derived.Test.YtaiiikfeaokmhaaPFnQueuex6
import Derived.Test.YtaiiikfeaokmhaaPFnQueuex7
import Derived.Test.YtaiiikfeaokmhaaPFnQueuex9
import Derived.Test.YtaiiikfeaokmhaaPFnQueuex10
import Derived.Test.YtaiiikfeaokmhaaPFnQueuex11
import Derived.Test.YtaiiikfeaokmhaaPFnQueuex12
namespace Go.Proofs.Ytaiiikfeaokmhaa.PFnQueue
open Go.RowKit Go.Proofs.YtaiiikfeaokmhaaW.PrintWords Go.Proofs.YtaiiikfeaokmhaaW.PrintLast Go.Proofs.YtaiiikfeaokmhaaW.PrintMore
attribute [local go_sem] max2_int min2_int max_two min_two max_three min_three max_four min_four   -- for this text's walks alone
set_option linter.unusedVariables false
set_option linter.unusedSimpArgs false
mutual
def laws_FnQueue.j0:Nat→List Int→List Int→Bool→Option (Bool)
 | 0,_,_,_=>none
 | k + 1,x0,x1,x23=>if x23 = true then (some true) else ((spec_DrawQueuePut.f k x0).bind fun bt457=>((impl_QueuePut.f k bt457.1 bt457.2.1 bt457.2.2.1 bt457.2.2.2.1 bt457.2.2.2.2).bind fun bt465=>((spec_DrawQueueTake.f k x1).bind fun t474=>((impl_QueueTake.f k t474).bind fun bt477=>((spec_DrawQueueDrop.f k x1).bind fun bt486=>((impl_QueueDrop.f k bt486.1 bt486.2).bind fun bt490=>((spec_QueuePut.f k bt457.1 bt457.2.1 bt457.2.2.1 bt457.2.2.2.1 bt457.2.2.2.2).bind fun bt499=>((laws_lwQueues.f k bt465.1 bt465.2.1 bt465.2.2.1 bt465.2.2.2.1 bt465.2.2.2.2.1 bt465.2.2.2.2.2 bt499.1 bt499.2.1 bt499.2.2.1 bt499.2.2.2.1 bt499.2.2.2.2.1 bt499.2.2.2.2.2).bind fun t507=>(if t507 = true then ((spec_QueueTake.f k t474).bind fun bt508=>((laws_lwQueues.f k bt477.1 bt477.2.1 bt477.2.2.1 bt477.2.2.2.1 bt477.2.2.2.2.1 bt477.2.2.2.2.2 bt508.1 bt508.2.1 bt508.2.2.1 bt508.2.2.2.1 bt508.2.2.2.2.1 bt508.2.2.2.2.2).bind fun t516=>(if t516 = true then ((spec_QueueDrop.f k bt486.1 bt486.2).bind fun bt517=>((laws_lwQueues.f k bt490.1 bt490.2.1 bt490.2.2.1 bt490.2.2.2.1 bt490.2.2.2.2.1 bt490.2.2.2.2.2 bt517.1 bt517.2.1 bt517.2.2.1 bt517.2.2.2.1 bt517.2.2.2.2.1 bt517.2.2.2.2.2).bind fun t525=>(if t525 = true then ((impl_QueueRight.f k bt457.1).bind fun t526=>((spec_QueueRight.f k bt457.1).bind fun t527=>(laws_FnQueue.j1 k t474 bt486.2 (t526 != t527) bt465.1 bt465.2.1 bt465.2.2.1 bt465.2.2.2.1 bt465.2.2.2.2.1 bt465.2.2.2.2.2 bt477.1 bt477.2.1 bt477.2.2.1 bt477.2.2.2.1 bt477.2.2.2.2.1 bt477.2.2.2.2.2 bt490.1 bt490.2.1 bt490.2.2.1 bt490.2.2.2.1 bt490.2.2.2.2.1 bt490.2.2.2.2.2))) else (laws_FnQueue.j1 k t474 bt486.2 true bt465.1 bt465.2.1 bt465.2.2.1 bt465.2.2.2.1 bt465.2.2.2.2.1 bt465.2.2.2.2.2 bt477.1 bt477.2.1 bt477.2.2.1 bt477.2.2.2.1 bt477.2.2.2.2.1 bt477.2.2.2.2.2 bt490.1 bt490.2.1 bt490.2.2.1 bt490.2.2.2.1 bt490.2.2.2.2.1 bt490.2.2.2.2.2)))) else (laws_FnQueue.j1 k t474 bt486.2 true bt465.1 bt465.2.1 bt465.2.2.1 bt465.2.2.2.1 bt465.2.2.2.2.1 bt465.2.2.2.2.2 bt477.1 bt477.2.1 bt477.2.2.1 bt477.2.2.2.1 bt477.2.2.2.2.1 bt477.2.2.2.2.2 bt490.1 bt490.2.1 bt490.2.2.1 bt490.2.2.2.1 bt490.2.2.2.2.1 bt490.2.2.2.2.2)))) else (laws_FnQueue.j1 k t474 bt486.2 true bt465.1 bt465.2.1 bt465.2.2.1 bt465.2.2.2.1 bt465.2.2.2.2.1 bt465.2.2.2.2.2 bt477.1 bt477.2.1 bt477.2.2.1 bt477.2.2.2.1 bt477.2.2.2.2.1 bt477.2.2.2.2.2 bt490.1 bt490.2.1 bt490.2.2.1 bt490.2.2.2.1 bt490.2.2.2.2.1 bt490.2.2.2.2.2))))))))))
def laws_FnQueue.j1:Nat→List (S25)→Int→Bool→List (S25)→Int→Int→Int→ByteArray→Int→List (S25)→Int→Int→Int→ByteArray→Int→List (S25)→Int→Int→Int→ByteArray→Int→Option (Bool)
 | 0,_,_,_,_,_,_,_,_,_,_,_,_,_,_,_,_,_,_,_,_,_=>none
 | k + 1,x8,x11,x71,x474000,x474001,x474002,x474003,x474004,x474005,x486000,x486001,x486002,x486003,x486004,x486005,x499000,x499001,x499002,x499003,x499004,x499005=>if x71 = true then (some false) else (laws_FnQueue.l0 k x8 x11 0 x474000 x474001 x474002 x474003 x474004 x474005 x486000 x486001 x486002 x486003 x486004 x486005 x499000 x499001 x499002 x499003 x499004 x499005)
def laws_FnQueue.l0:Nat→List (S25)→Int→Int→List (S25)→Int→Int→Int→ByteArray→Int→List (S25)→Int→Int→Int→ByteArray→Int→List (S25)→Int→Int→Int→ByteArray→Int→Option (Bool)
 | 0,_,_,_,_,_,_,_,_,_,_,_,_,_,_,_,_,_,_,_,_,_=>none
 | k + 1,x8,x11,x13,x474000,x474001,x474002,x474003,x474004,x474005,x486000,x486001,x486002,x486003,x486004,x486005,x499000,x499001,x499002,x499003,x499004,x499005=>if x13 < (x499000.length:Int) then (if 0≤x13 then (if ((rd_T25 x499000 x13).f2) = x11 then (some false) else (laws_FnQueue.l0 k x8 x11 (wrap64 (x13 + 1)) x474000 x474001 x474002 x474003 x474004 x474005 x486000 x486001 x486002 x486003 x486004 x486005 x499000 x499001 x499002 x499003 x499004 x499005)) else (none)) else (if x486005 = 0 then ((impl_QueuePut.f k x486000 x486001 x486002 x486003 x486004).bind fun bt529=>((laws_lwQueue.f k bt529.1 x8).bind fun t537=>(laws_FnQueue.j3 k (!t537) x474000 x474001 x474002 x474003 x474004 x474005))) else (laws_FnQueue.j3 k false x474000 x474001 x474002 x474003 x474004 x474005))
def laws_FnQueue.j3:Nat→Bool→List (S25)→Int→Int→Int→ByteArray→Int→Option (Bool)
 | 0,_,_,_,_,_,_,_=>none
 | k + 1,x100,x474000,x474001,x474002,x474003,x474004,x474005=>if x100 = true then (some false) else (if x474005 = 0 then (laws_FnQueue.l1 k (([]:List (S25))) (wrap64 ((x474000.length:Int) - 1)) x474000 x474001 x474002 x474003 x474004 x474005) else (some true))
def laws_FnQueue.l1:Nat→List (S25)→Int→List (S25)→Int→Int→Int→ByteArray→Int→Option (Bool)
 | 0,_,_,_,_,_,_,_,_=>none
 | k + 1,x14,x15,x474000,x474001,x474002,x474003,x474004,x474005=>if x15 ≥ 0 then (if 0≤x15 then (if x15 < (x474000.length:Int) then ((impl_QueuePut.f k x14 ((rd_T25 x474000 x15).f0) ((rd_T25 x474000 x15).f1) ((rd_T25 x474000 x15).f2) ((rd_T25 x474000 x15).f3)).bind fun bt542=>(laws_FnQueue.l1 k bt542.1 (wrap64 (x15 - 1)) x474000 x474001 x474002 x474003 x474004 x474005)) else (none)) else (none)) else ((laws_lwQueue.f k x14 x474000).bind fun t550=>(some t550))
end
def laws_FnQueue.f (k:Nat) (l0:List Int) (l1:List Int):Option (Bool):=if (l0.length:Int) > 1048576 then (laws_FnQueue.j0 k l0 l1 true) else (laws_FnQueue.j0 k l0 l1 (decide ((l1.length:Int) > 1048576)))
def laws_FnQueue.T9:Bool×List (List Nat×List Nat):=(true,[([],[]),([],[]),([],[]),([1,2],[1,2]),([0,3,3],[0,3]),([4],[4]),([5,4],[5]),([6],[6]),([6],[6]),([8,6,6],[6,8]),([7,9,9,6],[6,7,9]),([10,6],[6,10]),([6,11],[6,11]),([12,10],[12]),([13],[13]),([13],[13]),([13],[13]),([15,16,13,13],[13,15,16]),([14,17,17,13],[13,14,17]),([18,13],[13,18]),([13,19],[13,19]),([20,18],[20]),([21],[21]),([22,21,21],[21,22]),([21],[21]),([24,23,21],[21,24]),([23,25,21],[21,23,25]),([21,26],[21,26])])
def laws_FnQueue.B9:List Nat:=[0,0,0,6,15,31,63,127,127,383,1023,2047,4095,8191,16383,16383,16383,114687,262143,524287,1048575,2097151,4194303,8388607,4194303,33554431,67108863,134217727]
theorem laws_FnQueue.tab9:rtab .any (opsOf Try.f3 9) = laws_FnQueue.T9:=by kernel_rfl
theorem laws_FnQueue.bits9:waitsOk laws_FnQueue.T9.2 laws_FnQueue.B9 = true:=by kernel_rfl
theorem laws_FnQueue.j1_no:∀ (k_:Nat) (y0:List (S25)) (y1:Int) (y3:List (S25)) (y4:Int) (y5:Int) (y6:Int) (y7:ByteArray) (y8:Int) (y9:List (S25)) (y10:Int) (y11:Int) (y12:Int) (y13:ByteArray) (y14:Int) (y15:List (S25)) (y16:Int) (y17:Int) (y18:Int) (y19:ByteArray) (y20:Int),laws_FnQueue.j1 k_ y0 y1 true y3 y4 y5 y6 y7 y8 y9 y10 y11 y12 y13 y14 y15 y16 y17 y18 y19 y20≠some true:=by
 intro k_ y0 y1 y3 y4 y5 y6 y7 y8 y9 y10 y11 y12 y13 y14 y15 y16 y17 y18 y19 y20
 cases k_ <;> simp [laws_FnQueue.j1]
theorem laws_FnQueue.j3_no:∀ (k_:Nat) (y1:List (S25)) (y2:Int) (y3:Int) (y4:Int) (y5:ByteArray) (y6:Int),laws_FnQueue.j3 k_ true y1 y2 y3 y4 y5 y6≠some true:=by
 intro k_ y1 y2 y3 y4 y5 y6
 cases k_ <;> simp [laws_FnQueue.j3]
set_option maxHeartbeats 8000000 in
set_option maxRecDepth 100000 in
theorem laws_FnQueue.calls (k:Nat) (A0:Option Addr) (c0:Nat) (l0:List Int) (A1:Option Addr) (c1:Nat) (l1:List Int) (r:Bool) (w:World) (hr0:Kd.C (Kd.int .u8) w A0 l0.length l0) (hc0:l0.length≤c0) (hr1:Kd.C (Kd.int .u8) w A1 l1.length l1) (hc1:l1.length≤c1) (h:laws_FnQueue.f k l0 l1 = some r) (ht_:r = true) :
  Calls Try.prog 3 #[.slice A0 l0.length c0,.slice A1 l1.length c1] w fun e w'=>e = .returned (.bool r)∧Below w.heap.size w w':=by
 have hfd29_0:∀ (a0_ a1_ a2_ a3_ a4_ a5_:Value) (w_:World),(Instr.field 29 (.agg #[a0_,a1_,a2_,a3_,a4_,a5_]) 0).run Try.prog w_ = .ok a0_ w_:=fun _ _ _ _ _ _ _=>by kernel_rfl
 have HT_:=Aside0.mk ht_
 clear ht_
 have hu25:=Try.underlying25
 have hu29:=Try.underlying29
 have HR0:=Aside0.mk hr0
 have HC0:=Aside0.mk hc0
 clear hr0 hc0
 have HR1:=Aside0.mk hr1
 have HC1:=Aside0.mk hc1
 clear hr1 hc1
 have HB:=Aside0.mk (Below.refl w.heap.size w)
 have H:(if (l0.length:Int) > 1048576 then (laws_FnQueue.j0 k l0 l1 true) else (laws_FnQueue.j0 k l0 l1 (decide ((l1.length:Int) > 1048576)))) = some r:=h
 clear h
 have HC3:=Aside0.mk H
 clear H
 go_enter Try.func3,Try.ntmps3
 go_upto_region 1 with (fail)
 go_cut [23] (fun v23 wc=>∃ (kq:Nat) (x23_2:Bool),v23 = .bool x23_2∧Aside0 (laws_FnQueue.j0 kq l0 l1 x23_2 = some r)∧Aside0 (kq≤k)∧Aside0 (Below w.heap.size w wc))
 case first =>
  as_aux_lemma =>
  have H:=HC3.out
  clear HC3
  by_cases c4:(l0.length:Int) > 1048576
  ·rw [if_pos c4] at H
   have c4b0:decide (1048576 < (l0.length:Int)) = true:=decide_eq_true c4
   have c4b1:decide (1048576 < l0.length) = true:=decide_eq_true (by omega)
   clear c4
   (first|rw [c4b0]|(simp only [i64_w,i32_w];rw [c4b0])|skip)
   have H':=Aside0.mk H
   clear H
   go_wp2
   go_meet
   case rel=>exact ⟨_,(true),(by first|rfl|(simp;done)|(simp [*];done)),H',⟨by first|omega|exact Nat.le_refl _⟩,⟨by repeat (first|(with_reducible first|exact HB.out|apply below_alloc|apply pw_below_drewN|apply below_drew1)|exact HB.out)⟩⟩
  ·rw [if_neg c4] at H
   have c4b0:decide (1048576 < (l0.length:Int)) = false:=decide_eq_false c4
   have c4b1:decide (1048576 < l0.length) = false:=decide_eq_false (by omega)
   clear c4
   (first|rw [c4b0]|(simp only [i64_w,i32_w];rw [c4b0])|skip)
   have H':=Aside0.mk H
   clear H
   go_wp2
   go_meet
   case rel=>exact ⟨_,(decide ((l1.length:Int) > 1048576)),(by first|rfl|(simp;done)|(simp [*];done)),H',⟨by first|omega|exact Nat.le_refl _⟩,⟨by repeat (first|(with_reducible first|exact HB.out|apply below_alloc|apply pw_below_drewN|apply below_drew1)|exact HB.out)⟩⟩
 case rest =>
  as_aux_lemma =>
  clear HC3
  try clear c1
  try clear p2
  try clear c3
  try clear c4
  try clear c4b0
  try clear c4b1
  obtain ⟨kq,x23_2,rfl,HA,HJ2,HB⟩:=hcut
  cases kq with
  | zero=>exact absurd HA.out (by simp [laws_FnQueue.j0])
  | succ kj2 =>
   have H:=HA.out
   clear HA
   simp only [laws_FnQueue.j0] at H
   by_cases c5:x23_2 = true
   ·subst c5
    have H1:(some true) = some r:=by rw [if_pos rfl] at H;exact H
    clear H
    have H:=H1
    clear H1
    obtain rfl:=Option.some.inj H
    go_wp2
    go_ret
    exact ⟨by first|rfl|(simp [errW_none,errW_some] <;> rfl)|(simp [*,errW_none,errW_some] <;> rfl),by repeat (first|(with_reducible first|exact HB.out|apply below_alloc|apply pw_below_drewN|apply below_drew1)|exact HB.out)⟩
   ·replace c5:=Bool.eq_false_iff.mpr c5
    subst c5
    have H1:((spec_DrawQueuePut.f kj2 l0).bind fun bt457=>((impl_QueuePut.f kj2 bt457.1 bt457.2.1 bt457.2.2.1 bt457.2.2.2.1 bt457.2.2.2.2).bind fun bt465=>((spec_DrawQueueTake.f kj2 l1).bind fun t474=>((impl_QueueTake.f kj2 t474).bind fun bt477=>((spec_DrawQueueDrop.f kj2 l1).bind fun bt486=>((impl_QueueDrop.f kj2 bt486.1 bt486.2).bind fun bt490=>((spec_QueuePut.f kj2 bt457.1 bt457.2.1 bt457.2.2.1 bt457.2.2.2.1 bt457.2.2.2.2).bind fun bt499=>((laws_lwQueues.f kj2 bt465.1 bt465.2.1 bt465.2.2.1 bt465.2.2.2.1 bt465.2.2.2.2.1 bt465.2.2.2.2.2 bt499.1 bt499.2.1 bt499.2.2.1 bt499.2.2.2.1 bt499.2.2.2.2.1 bt499.2.2.2.2.2).bind fun t507=>(if t507 = true then ((spec_QueueTake.f kj2 t474).bind fun bt508=>((laws_lwQueues.f kj2 bt477.1 bt477.2.1 bt477.2.2.1 bt477.2.2.2.1 bt477.2.2.2.2.1 bt477.2.2.2.2.2 bt508.1 bt508.2.1 bt508.2.2.1 bt508.2.2.2.1 bt508.2.2.2.2.1 bt508.2.2.2.2.2).bind fun t516=>(if t516 = true then ((spec_QueueDrop.f kj2 bt486.1 bt486.2).bind fun bt517=>((laws_lwQueues.f kj2 bt490.1 bt490.2.1 bt490.2.2.1 bt490.2.2.2.1 bt490.2.2.2.2.1 bt490.2.2.2.2.2 bt517.1 bt517.2.1 bt517.2.2.1 bt517.2.2.2.1 bt517.2.2.2.2.1 bt517.2.2.2.2.2).bind fun t525=>(if t525 = true then ((impl_QueueRight.f kj2 bt457.1).bind fun t526=>((spec_QueueRight.f kj2 bt457.1).bind fun t527=>(laws_FnQueue.j1 kj2 t474 bt486.2 (t526 != t527) bt465.1 bt465.2.1 bt465.2.2.1 bt465.2.2.2.1 bt465.2.2.2.2.1 bt465.2.2.2.2.2 bt477.1 bt477.2.1 bt477.2.2.1 bt477.2.2.2.1 bt477.2.2.2.2.1 bt477.2.2.2.2.2 bt490.1 bt490.2.1 bt490.2.2.1 bt490.2.2.2.1 bt490.2.2.2.2.1 bt490.2.2.2.2.2))) else (laws_FnQueue.j1 kj2 t474 bt486.2 true bt465.1 bt465.2.1 bt465.2.2.1 bt465.2.2.2.1 bt465.2.2.2.2.1 bt465.2.2.2.2.2 bt477.1 bt477.2.1 bt477.2.2.1 bt477.2.2.2.1 bt477.2.2.2.2.1 bt477.2.2.2.2.2 bt490.1 bt490.2.1 bt490.2.2.1 bt490.2.2.2.1 bt490.2.2.2.2.1 bt490.2.2.2.2.2)))) else (laws_FnQueue.j1 kj2 t474 bt486.2 true bt465.1 bt465.2.1 bt465.2.2.1 bt465.2.2.2.1 bt465.2.2.2.2.1 bt465.2.2.2.2.2 bt477.1 bt477.2.1 bt477.2.2.1 bt477.2.2.2.1 bt477.2.2.2.2.1 bt477.2.2.2.2.2 bt490.1 bt490.2.1 bt490.2.2.1 bt490.2.2.2.1 bt490.2.2.2.2.1 bt490.2.2.2.2.2)))) else (laws_FnQueue.j1 kj2 t474 bt486.2 true bt465.1 bt465.2.1 bt465.2.2.1 bt465.2.2.2.1 bt465.2.2.2.2.1 bt465.2.2.2.2.2 bt477.1 bt477.2.1 bt477.2.2.1 bt477.2.2.2.1 bt477.2.2.2.2.1 bt477.2.2.2.2.2 bt490.1 bt490.2.1 bt490.2.2.1 bt490.2.2.2.1 bt490.2.2.2.2.1 bt490.2.2.2.2.2)))))))))) = some r:=by rw [if_neg (show ¬ (false = true) by decide)] at H;exact H
    clear H
    have H:=H1
    clear H1
    replace H:=Option.bind_eq_some_iff.mp H
    obtain ⟨⟨t457,t460,t461,t462,t463⟩,A60,H⟩:=H
    replace H:((impl_QueuePut.f kj2 t457 t460 t461 t462 t463).bind fun bt465=>((spec_DrawQueueTake.f kj2 l1).bind fun t474=>((impl_QueueTake.f kj2 t474).bind fun bt477=>((spec_DrawQueueDrop.f kj2 l1).bind fun bt486=>((impl_QueueDrop.f kj2 bt486.1 bt486.2).bind fun bt490=>((spec_QueuePut.f kj2 t457 t460 t461 t462 t463).bind fun bt499=>((laws_lwQueues.f kj2 bt465.1 bt465.2.1 bt465.2.2.1 bt465.2.2.2.1 bt465.2.2.2.2.1 bt465.2.2.2.2.2 bt499.1 bt499.2.1 bt499.2.2.1 bt499.2.2.2.1 bt499.2.2.2.2.1 bt499.2.2.2.2.2).bind fun t507=>(if t507 = true then ((spec_QueueTake.f kj2 t474).bind fun bt508=>((laws_lwQueues.f kj2 bt477.1 bt477.2.1 bt477.2.2.1 bt477.2.2.2.1 bt477.2.2.2.2.1 bt477.2.2.2.2.2 bt508.1 bt508.2.1 bt508.2.2.1 bt508.2.2.2.1 bt508.2.2.2.2.1 bt508.2.2.2.2.2).bind fun t516=>(if t516 = true then ((spec_QueueDrop.f kj2 bt486.1 bt486.2).bind fun bt517=>((laws_lwQueues.f kj2 bt490.1 bt490.2.1 bt490.2.2.1 bt490.2.2.2.1 bt490.2.2.2.2.1 bt490.2.2.2.2.2 bt517.1 bt517.2.1 bt517.2.2.1 bt517.2.2.2.1 bt517.2.2.2.2.1 bt517.2.2.2.2.2).bind fun t525=>(if t525 = true then ((impl_QueueRight.f kj2 t457).bind fun t526=>((spec_QueueRight.f kj2 t457).bind fun t527=>(laws_FnQueue.j1 kj2 t474 bt486.2 (t526 != t527) bt465.1 bt465.2.1 bt465.2.2.1 bt465.2.2.2.1 bt465.2.2.2.2.1 bt465.2.2.2.2.2 bt477.1 bt477.2.1 bt477.2.2.1 bt477.2.2.2.1 bt477.2.2.2.2.1 bt477.2.2.2.2.2 bt490.1 bt490.2.1 bt490.2.2.1 bt490.2.2.2.1 bt490.2.2.2.2.1 bt490.2.2.2.2.2))) else (laws_FnQueue.j1 kj2 t474 bt486.2 true bt465.1 bt465.2.1 bt465.2.2.1 bt465.2.2.2.1 bt465.2.2.2.2.1 bt465.2.2.2.2.2 bt477.1 bt477.2.1 bt477.2.2.1 bt477.2.2.2.1 bt477.2.2.2.2.1 bt477.2.2.2.2.2 bt490.1 bt490.2.1 bt490.2.2.1 bt490.2.2.2.1 bt490.2.2.2.2.1 bt490.2.2.2.2.2)))) else (laws_FnQueue.j1 kj2 t474 bt486.2 true bt465.1 bt465.2.1 bt465.2.2.1 bt465.2.2.2.1 bt465.2.2.2.2.1 bt465.2.2.2.2.2 bt477.1 bt477.2.1 bt477.2.2.1 bt477.2.2.2.1 bt477.2.2.2.2.1 bt477.2.2.2.2.2 bt490.1 bt490.2.1 bt490.2.2.1 bt490.2.2.2.1 bt490.2.2.2.2.1 bt490.2.2.2.2.2)))) else (laws_FnQueue.j1 kj2 t474 bt486.2 true bt465.1 bt465.2.1 bt465.2.2.1 bt465.2.2.2.1 bt465.2.2.2.2.1 bt465.2.2.2.2.2 bt477.1 bt477.2.1 bt477.2.2.1 bt477.2.2.2.1 bt477.2.2.2.2.1 bt477.2.2.2.2.2 bt490.1 bt490.2.1 bt490.2.2.1 bt490.2.2.2.1 bt490.2.2.2.2.1 bt490.2.2.2.2.2))))))))) = some r:=H
    have A6:=Aside0.mk A60
    clear A60
    replace H:=Option.bind_eq_some_iff.mp H
    obtain ⟨⟨t465,t468,t469,t470,t471,t472⟩,A70,H⟩:=H
    replace H:((spec_DrawQueueTake.f kj2 l1).bind fun t474=>((impl_QueueTake.f kj2 t474).bind fun bt477=>((spec_DrawQueueDrop.f kj2 l1).bind fun bt486=>((impl_QueueDrop.f kj2 bt486.1 bt486.2).bind fun bt490=>((spec_QueuePut.f kj2 t457 t460 t461 t462 t463).bind fun bt499=>((laws_lwQueues.f kj2 t465 t468 t469 t470 t471 t472 bt499.1 bt499.2.1 bt499.2.2.1 bt499.2.2.2.1 bt499.2.2.2.2.1 bt499.2.2.2.2.2).bind fun t507=>(if t507 = true then ((spec_QueueTake.f kj2 t474).bind fun bt508=>((laws_lwQueues.f kj2 bt477.1 bt477.2.1 bt477.2.2.1 bt477.2.2.2.1 bt477.2.2.2.2.1 bt477.2.2.2.2.2 bt508.1 bt508.2.1 bt508.2.2.1 bt508.2.2.2.1 bt508.2.2.2.2.1 bt508.2.2.2.2.2).bind fun t516=>(if t516 = true then ((spec_QueueDrop.f kj2 bt486.1 bt486.2).bind fun bt517=>((laws_lwQueues.f kj2 bt490.1 bt490.2.1 bt490.2.2.1 bt490.2.2.2.1 bt490.2.2.2.2.1 bt490.2.2.2.2.2 bt517.1 bt517.2.1 bt517.2.2.1 bt517.2.2.2.1 bt517.2.2.2.2.1 bt517.2.2.2.2.2).bind fun t525=>(if t525 = true then ((impl_QueueRight.f kj2 t457).bind fun t526=>((spec_QueueRight.f kj2 t457).bind fun t527=>(laws_FnQueue.j1 kj2 t474 bt486.2 (t526 != t527) t465 t468 t469 t470 t471 t472 bt477.1 bt477.2.1 bt477.2.2.1 bt477.2.2.2.1 bt477.2.2.2.2.1 bt477.2.2.2.2.2 bt490.1 bt490.2.1 bt490.2.2.1 bt490.2.2.2.1 bt490.2.2.2.2.1 bt490.2.2.2.2.2))) else (laws_FnQueue.j1 kj2 t474 bt486.2 true t465 t468 t469 t470 t471 t472 bt477.1 bt477.2.1 bt477.2.2.1 bt477.2.2.2.1 bt477.2.2.2.2.1 bt477.2.2.2.2.2 bt490.1 bt490.2.1 bt490.2.2.1 bt490.2.2.2.1 bt490.2.2.2.2.1 bt490.2.2.2.2.2)))) else (laws_FnQueue.j1 kj2 t474 bt486.2 true t465 t468 t469 t470 t471 t472 bt477.1 bt477.2.1 bt477.2.2.1 bt477.2.2.2.1 bt477.2.2.2.2.1 bt477.2.2.2.2.2 bt490.1 bt490.2.1 bt490.2.2.1 bt490.2.2.2.1 bt490.2.2.2.2.1 bt490.2.2.2.2.2)))) else (laws_FnQueue.j1 kj2 t474 bt486.2 true t465 t468 t469 t470 t471 t472 bt477.1 bt477.2.1 bt477.2.2.1 bt477.2.2.2.1 bt477.2.2.2.2.1 bt477.2.2.2.2.2 bt490.1 bt490.2.1 bt490.2.2.1 bt490.2.2.2.1 bt490.2.2.2.2.1 bt490.2.2.2.2.2)))))))) = some r:=H
    have A7:=Aside0.mk A70
    clear A70
    replace H:=Option.bind_eq_some_iff.mp H
    obtain ⟨t474,A80,H⟩:=H
    replace H:((impl_QueueTake.f kj2 t474).bind fun bt477=>((spec_DrawQueueDrop.f kj2 l1).bind fun bt486=>((impl_QueueDrop.f kj2 bt486.1 bt486.2).bind fun bt490=>((spec_QueuePut.f kj2 t457 t460 t461 t462 t463).bind fun bt499=>((laws_lwQueues.f kj2 t465 t468 t469 t470 t471 t472 bt499.1 bt499.2.1 bt499.2.2.1 bt499.2.2.2.1 bt499.2.2.2.2.1 bt499.2.2.2.2.2).bind fun t507=>(if t507 = true then ((spec_QueueTake.f kj2 t474).bind fun bt508=>((laws_lwQueues.f kj2 bt477.1 bt477.2.1 bt477.2.2.1 bt477.2.2.2.1 bt477.2.2.2.2.1 bt477.2.2.2.2.2 bt508.1 bt508.2.1 bt508.2.2.1 bt508.2.2.2.1 bt508.2.2.2.2.1 bt508.2.2.2.2.2).bind fun t516=>(if t516 = true then ((spec_QueueDrop.f kj2 bt486.1 bt486.2).bind fun bt517=>((laws_lwQueues.f kj2 bt490.1 bt490.2.1 bt490.2.2.1 bt490.2.2.2.1 bt490.2.2.2.2.1 bt490.2.2.2.2.2 bt517.1 bt517.2.1 bt517.2.2.1 bt517.2.2.2.1 bt517.2.2.2.2.1 bt517.2.2.2.2.2).bind fun t525=>(if t525 = true then ((impl_QueueRight.f kj2 t457).bind fun t526=>((spec_QueueRight.f kj2 t457).bind fun t527=>(laws_FnQueue.j1 kj2 t474 bt486.2 (t526 != t527) t465 t468 t469 t470 t471 t472 bt477.1 bt477.2.1 bt477.2.2.1 bt477.2.2.2.1 bt477.2.2.2.2.1 bt477.2.2.2.2.2 bt490.1 bt490.2.1 bt490.2.2.1 bt490.2.2.2.1 bt490.2.2.2.2.1 bt490.2.2.2.2.2))) else (laws_FnQueue.j1 kj2 t474 bt486.2 true t465 t468 t469 t470 t471 t472 bt477.1 bt477.2.1 bt477.2.2.1 bt477.2.2.2.1 bt477.2.2.2.2.1 bt477.2.2.2.2.2 bt490.1 bt490.2.1 bt490.2.2.1 bt490.2.2.2.1 bt490.2.2.2.2.1 bt490.2.2.2.2.2)))) else (laws_FnQueue.j1 kj2 t474 bt486.2 true t465 t468 t469 t470 t471 t472 bt477.1 bt477.2.1 bt477.2.2.1 bt477.2.2.2.1 bt477.2.2.2.2.1 bt477.2.2.2.2.2 bt490.1 bt490.2.1 bt490.2.2.1 bt490.2.2.2.1 bt490.2.2.2.2.1 bt490.2.2.2.2.2)))) else (laws_FnQueue.j1 kj2 t474 bt486.2 true t465 t468 t469 t470 t471 t472 bt477.1 bt477.2.1 bt477.2.2.1 bt477.2.2.2.1 bt477.2.2.2.2.1 bt477.2.2.2.2.2 bt490.1 bt490.2.1 bt490.2.2.1 bt490.2.2.2.1 bt490.2.2.2.2.1 bt490.2.2.2.2.2))))))) = some r:=H
    have A8:=Aside0.mk A80
    clear A80
    replace H:=Option.bind_eq_some_iff.mp H
    obtain ⟨⟨t477,t480,t481,t482,t483,t484⟩,A90,H⟩:=H
    replace H:((spec_DrawQueueDrop.f kj2 l1).bind fun bt486=>((impl_QueueDrop.f kj2 bt486.1 bt486.2).bind fun bt490=>((spec_QueuePut.f kj2 t457 t460 t461 t462 t463).bind fun bt499=>((laws_lwQueues.f kj2 t465 t468 t469 t470 t471 t472 bt499.1 bt499.2.1 bt499.2.2.1 bt499.2.2.2.1 bt499.2.2.2.2.1 bt499.2.2.2.2.2).bind fun t507=>(if t507 = true then ((spec_QueueTake.f kj2 t474).bind fun bt508=>((laws_lwQueues.f kj2 t477 t480 t481 t482 t483 t484 bt508.1 bt508.2.1 bt508.2.2.1 bt508.2.2.2.1 bt508.2.2.2.2.1 bt508.2.2.2.2.2).bind fun t516=>(if t516 = true then ((spec_QueueDrop.f kj2 bt486.1 bt486.2).bind fun bt517=>((laws_lwQueues.f kj2 bt490.1 bt490.2.1 bt490.2.2.1 bt490.2.2.2.1 bt490.2.2.2.2.1 bt490.2.2.2.2.2 bt517.1 bt517.2.1 bt517.2.2.1 bt517.2.2.2.1 bt517.2.2.2.2.1 bt517.2.2.2.2.2).bind fun t525=>(if t525 = true then ((impl_QueueRight.f kj2 t457).bind fun t526=>((spec_QueueRight.f kj2 t457).bind fun t527=>(laws_FnQueue.j1 kj2 t474 bt486.2 (t526 != t527) t465 t468 t469 t470 t471 t472 t477 t480 t481 t482 t483 t484 bt490.1 bt490.2.1 bt490.2.2.1 bt490.2.2.2.1 bt490.2.2.2.2.1 bt490.2.2.2.2.2))) else (laws_FnQueue.j1 kj2 t474 bt486.2 true t465 t468 t469 t470 t471 t472 t477 t480 t481 t482 t483 t484 bt490.1 bt490.2.1 bt490.2.2.1 bt490.2.2.2.1 bt490.2.2.2.2.1 bt490.2.2.2.2.2)))) else (laws_FnQueue.j1 kj2 t474 bt486.2 true t465 t468 t469 t470 t471 t472 t477 t480 t481 t482 t483 t484 bt490.1 bt490.2.1 bt490.2.2.1 bt490.2.2.2.1 bt490.2.2.2.2.1 bt490.2.2.2.2.2)))) else (laws_FnQueue.j1 kj2 t474 bt486.2 true t465 t468 t469 t470 t471 t472 t477 t480 t481 t482 t483 t484 bt490.1 bt490.2.1 bt490.2.2.1 bt490.2.2.2.1 bt490.2.2.2.2.1 bt490.2.2.2.2.2)))))) = some r:=H
    have A9:=Aside0.mk A90
    clear A90
    replace H:=Option.bind_eq_some_iff.mp H
    obtain ⟨⟨t486,t487⟩,A100,H⟩:=H
    replace H:((impl_QueueDrop.f kj2 t486 t487).bind fun bt490=>((spec_QueuePut.f kj2 t457 t460 t461 t462 t463).bind fun bt499=>((laws_lwQueues.f kj2 t465 t468 t469 t470 t471 t472 bt499.1 bt499.2.1 bt499.2.2.1 bt499.2.2.2.1 bt499.2.2.2.2.1 bt499.2.2.2.2.2).bind fun t507=>(if t507 = true then ((spec_QueueTake.f kj2 t474).bind fun bt508=>((laws_lwQueues.f kj2 t477 t480 t481 t482 t483 t484 bt508.1 bt508.2.1 bt508.2.2.1 bt508.2.2.2.1 bt508.2.2.2.2.1 bt508.2.2.2.2.2).bind fun t516=>(if t516 = true then ((spec_QueueDrop.f kj2 t486 t487).bind fun bt517=>((laws_lwQueues.f kj2 bt490.1 bt490.2.1 bt490.2.2.1 bt490.2.2.2.1 bt490.2.2.2.2.1 bt490.2.2.2.2.2 bt517.1 bt517.2.1 bt517.2.2.1 bt517.2.2.2.1 bt517.2.2.2.2.1 bt517.2.2.2.2.2).bind fun t525=>(if t525 = true then ((impl_QueueRight.f kj2 t457).bind fun t526=>((spec_QueueRight.f kj2 t457).bind fun t527=>(laws_FnQueue.j1 kj2 t474 t487 (t526 != t527) t465 t468 t469 t470 t471 t472 t477 t480 t481 t482 t483 t484 bt490.1 bt490.2.1 bt490.2.2.1 bt490.2.2.2.1 bt490.2.2.2.2.1 bt490.2.2.2.2.2))) else (laws_FnQueue.j1 kj2 t474 t487 true t465 t468 t469 t470 t471 t472 t477 t480 t481 t482 t483 t484 bt490.1 bt490.2.1 bt490.2.2.1 bt490.2.2.2.1 bt490.2.2.2.2.1 bt490.2.2.2.2.2)))) else (laws_FnQueue.j1 kj2 t474 t487 true t465 t468 t469 t470 t471 t472 t477 t480 t481 t482 t483 t484 bt490.1 bt490.2.1 bt490.2.2.1 bt490.2.2.2.1 bt490.2.2.2.2.1 bt490.2.2.2.2.2)))) else (laws_FnQueue.j1 kj2 t474 t487 true t465 t468 t469 t470 t471 t472 t477 t480 t481 t482 t483 t484 bt490.1 bt490.2.1 bt490.2.2.1 bt490.2.2.2.1 bt490.2.2.2.2.1 bt490.2.2.2.2.2))))) = some r:=H
    have A10:=Aside0.mk A100
    clear A100
    replace H:=Option.bind_eq_some_iff.mp H
    obtain ⟨⟨t490,t493,t494,t495,t496,t497⟩,A110,H⟩:=H
    replace H:((spec_QueuePut.f kj2 t457 t460 t461 t462 t463).bind fun bt499=>((laws_lwQueues.f kj2 t465 t468 t469 t470 t471 t472 bt499.1 bt499.2.1 bt499.2.2.1 bt499.2.2.2.1 bt499.2.2.2.2.1 bt499.2.2.2.2.2).bind fun t507=>(if t507 = true then ((spec_QueueTake.f kj2 t474).bind fun bt508=>((laws_lwQueues.f kj2 t477 t480 t481 t482 t483 t484 bt508.1 bt508.2.1 bt508.2.2.1 bt508.2.2.2.1 bt508.2.2.2.2.1 bt508.2.2.2.2.2).bind fun t516=>(if t516 = true then ((spec_QueueDrop.f kj2 t486 t487).bind fun bt517=>((laws_lwQueues.f kj2 t490 t493 t494 t495 t496 t497 bt517.1 bt517.2.1 bt517.2.2.1 bt517.2.2.2.1 bt517.2.2.2.2.1 bt517.2.2.2.2.2).bind fun t525=>(if t525 = true then ((impl_QueueRight.f kj2 t457).bind fun t526=>((spec_QueueRight.f kj2 t457).bind fun t527=>(laws_FnQueue.j1 kj2 t474 t487 (t526 != t527) t465 t468 t469 t470 t471 t472 t477 t480 t481 t482 t483 t484 t490 t493 t494 t495 t496 t497))) else (laws_FnQueue.j1 kj2 t474 t487 true t465 t468 t469 t470 t471 t472 t477 t480 t481 t482 t483 t484 t490 t493 t494 t495 t496 t497)))) else (laws_FnQueue.j1 kj2 t474 t487 true t465 t468 t469 t470 t471 t472 t477 t480 t481 t482 t483 t484 t490 t493 t494 t495 t496 t497)))) else (laws_FnQueue.j1 kj2 t474 t487 true t465 t468 t469 t470 t471 t472 t477 t480 t481 t482 t483 t484 t490 t493 t494 t495 t496 t497)))) = some r:=H
    have A11:=Aside0.mk A110
    clear A110
    have HC12:=Aside0.mk H
    clear H
    go_upto_region 9 with (first|((with_reducible refine gate_callee (f:=7) rfl ?_);refine goesL_ (some 26) rfl rfl Try.func7 (by kernel_rfl) rfl #[.slice A0 l0.length c0] rfl (by (try simp only [List.map_toArray,List.map_cons,List.map_nil]);first|done|rfl|(simp only [List.length_drop,List.length_take];rfl)) ?_;(with_reducible refine (spec_DrawQueuePut.calls kj2 _ _ l0 t457 t460 t461 t462 t463 _ ?side1 ?side2 A6.out).mono ?_);(case side1=>repeat (first|exact (Kd.C_below HR0.out HB.out)|(with_reducible refine Kd.C_alloc ?_ _)|(with_reducible refine Kd.C_drewN ?_ _)|(with_reducible refine Kd.C_drew ?_)));(case side2=>exact HC0.out);rintro e w13 ⟨v458,rfl,ho0,hb⟩;refine ⟨_,rfl,?_⟩;have n0_:=Aside0.mk (Kd.R_lower ho0 (below_size (by repeat (first|(with_reducible first|exact HB.out|apply below_alloc|apply pw_below_drewN|apply below_drew1)|exact HB.out))));have n1_:=Aside0.mk (below_step (by repeat (first|(with_reducible first|exact HB.out|apply below_alloc|apply pw_below_drewN|apply below_drew1)|exact HB.out)) hb);clear HB;have HO459:=n0_;have HB:=n1_;clear n0_ n1_;(try clear hb);(try clear hb2);(try clear hk);(try clear hi);(try clear ho0))|((with_reducible refine gate_dst (N:=6) rfl ?_);(try (refine gate_guard (by rfl) ?_;dsimp only));refine box_event ?hg (N:=6) ?hd (cs:=#[.int .i64 0,.int .i64 0,.int .i64 0,.string (⟨#[]⟩:ByteArray)]) (t:=25) ?hr ?_;(case hd=>rfl);(case hg=>rfl);(case hr=>first|(go_simp;done)|(go_simp;rfl));intro gb464 hg w14 hbox hb;have n0_:=Aside0.mk (Kd.R_below (Kd.R_elderB (by (with_reducible repeat (first|apply Kd.R_alloc|apply Kd.R_drewN|apply Kd.R_drew));exact HO459.out) gb464 (Nat.le_of_eq hg.symm)) hb);have n1_:=Aside0.mk (below_step (by repeat (first|(with_reducible first|exact HB.out|apply below_alloc|apply pw_below_drewN|apply below_drew1)|exact HB.out)) hb);have n2_:=Aside0.mk (hbox);have n3_:=Aside0.mk ((by rw [hg];exact (below_size (by repeat (first|(with_reducible first|exact HB.out|apply below_alloc|apply pw_below_drewN|apply below_drew1)|exact HB.out))):w.heap.size≤gb464));have n4_:=Aside0.mk ((by rw [hg];exact (below_size (by repeat (first|(with_reducible first|exact HB.out|apply below_alloc|apply pw_below_drewN|apply below_drew1)|exact HB.out))):w.heap.size≤gb464));clear HO459;clear HB;have HO459:=n0_;have HB:=n1_;have BK464:=n2_;have GW464:=n3_;have GE464:=n4_;clear n0_ n1_ n2_ n3_ n4_;clear hb hbox hg;have hcz15_0:w14.cell? ⟨gb464,0,none⟩ = some (.int .i64 0):=(blk_cell BK464.out 0).trans rfl;have hcz15_1:w14.cell? ⟨gb464,1,none⟩ = some (.int .i64 0):=(blk_cell BK464.out 1).trans rfl;have hcz15_2:w14.cell? ⟨gb464,2,none⟩ = some (.int .i64 0):=(blk_cell BK464.out 2).trans rfl;have hcz15_3:w14.cell? ⟨gb464,3,none⟩ = some (.string (⟨#[]⟩:ByteArray)):=(blk_cell BK464.out 3).trans rfl;have hfz15_0:=blk_frozen BK464.out 0;have hfz15_1:=blk_frozen BK464.out 1;have hfz15_2:=blk_frozen BK464.out 2;have hfz15_3:=blk_frozen BK464.out 3;obtain ⟨Ao16,co16,eo16⟩:=Kd.R_slice HO459.out;subst eo16)|((with_reducible refine gate_callee (f:=8) rfl ?_);refine goesL_ (some 31) rfl rfl Try.func8 (by kernel_rfl) rfl #[.slice Ao16 t457.length co16,.agg #[.int .i64 t460,.int .i64 t461,.int .i64 t462,.string t463]] rfl (by (try simp only [List.map_toArray,List.map_cons,List.map_nil]);first|done|rfl|(simp only [List.length_drop,List.length_take];rfl)) ?_;(with_reducible refine (impl_QueuePut.calls kj2 _ _ t457 t460 t461 t462 t463 t465 t468 t469 t470 t471 t472 _ ?side1 ?side2 A7.out).mono ?_);(case side1=>refine (Kd.R_reads' (e:=25) (base:=w.heap.size) (ok:=fun k_=>(True∧k_≠gb464)) (n:=t457.length) (c:=co16) ?_).2.2;exact (by (with_reducible repeat (first|apply Kd.R_alloc|apply Kd.R_drewN|apply Kd.R_drew));exact (Kd.R_mono (Kd.R_far (p:=⟨gb464,3,none⟩) (Kd.R_far (p:=⟨gb464,2,none⟩) (Kd.R_far (p:=⟨gb464,1,none⟩) (Kd.R_far (p:=⟨gb464,0,none⟩) (Kd.R_mono HO459.out (fun k_ hk=>(⟨hk,hk.2⟩:_∧k_≠gb464))) (fun _ hk=>hk.2) (.int .i64 t460)) (fun _ hk=>hk.2) (.int .i64 t461)) (fun _ hk=>hk.2) (.int .i64 t462)) (fun _ hk=>hk.2) (.string t463)) (fun _ h_=>h_.1))));(case side2=>exact (Kd.R_reads' HO459.out).2.1);rintro e w17 ⟨v466,rfl,ho0,hb⟩;refine ⟨_,rfl,?_⟩;have n0_:=Aside0.mk (Kd.R_elder' (by (with_reducible repeat (first|apply Kd.R_alloc|apply Kd.R_drewN|apply Kd.R_drew));exact (Kd.R_mono (Kd.R_far (p:=⟨gb464,3,none⟩) (Kd.R_far (p:=⟨gb464,2,none⟩) (Kd.R_far (p:=⟨gb464,1,none⟩) (Kd.R_far (p:=⟨gb464,0,none⟩) (Kd.R_mono HO459.out (fun k_ hk=>(⟨hk,hk.2⟩:_∧k_≠gb464))) (fun _ hk=>hk.2) (.int .i64 t460)) (fun _ hk=>hk.2) (.int .i64 t461)) (fun _ hk=>hk.2) (.int .i64 t462)) (fun _ hk=>hk.2) (.string t463)) (fun _ h_=>h_.1))) (Kd.R_base ho0) hb);have n1_:=Aside0.mk (Kd.R_lower (Kd.R_newB (Kd.R_new' ho0 (Kd.R_lt (by (with_reducible repeat (first|apply Kd.R_alloc|apply Kd.R_drewN|apply Kd.R_drew));exact (Kd.R_mono (Kd.R_far (p:=⟨gb464,3,none⟩) (Kd.R_far (p:=⟨gb464,2,none⟩) (Kd.R_far (p:=⟨gb464,1,none⟩) (Kd.R_far (p:=⟨gb464,0,none⟩) (Kd.R_mono HO459.out (fun k_ hk=>(⟨hk,hk.2⟩:_∧k_≠gb464))) (fun _ hk=>hk.2) (.int .i64 t460)) (fun _ hk=>hk.2) (.int .i64 t461)) (fun _ hk=>hk.2) (.int .i64 t462)) (fun _ hk=>hk.2) (.string t463)) (fun _ h_=>h_.1))))) (g:=gb464) (o:=.cells #[.int .i64 t460,.int .i64 t461,.int .i64 t462,.string t463] 25 (0,0)) (by (with_reducible repeat (first|refine blk_drewN ?_ _|refine blk_drew ?_|refine blk_alloc ?_ _));refine blk_put (cs:=#[.int .i64 t460,.int .i64 t461,.int .i64 t462,.string (⟨#[]⟩:ByteArray)]) ?_ 3 _ rfl;(with_reducible repeat (first|refine blk_drewN ?_ _|refine blk_drew ?_|refine blk_alloc ?_ _));refine blk_put (cs:=#[.int .i64 t460,.int .i64 t461,.int .i64 0,.string (⟨#[]⟩:ByteArray)]) ?_ 2 _ rfl;(with_reducible repeat (first|refine blk_drewN ?_ _|refine blk_drew ?_|refine blk_alloc ?_ _));refine blk_put (cs:=#[.int .i64 t460,.int .i64 0,.int .i64 0,.string (⟨#[]⟩:ByteArray)]) ?_ 1 _ rfl;(with_reducible repeat (first|refine blk_drewN ?_ _|refine blk_drew ?_|refine blk_alloc ?_ _));refine blk_put (cs:=#[.int .i64 0,.int .i64 0,.int .i64 0,.string (⟨#[]⟩:ByteArray)]) ?_ 0 _ rfl;(with_reducible repeat (first|refine blk_drewN ?_ _|refine blk_drew ?_|refine blk_alloc ?_ _));exact BK464.out)) (below_size (by repeat (first|(with_reducible first|exact HB.out|apply below_alloc|apply pw_below_drewN|apply below_drew1|refine below_set ?_ GE464.out)|exact HB.out))));have n2_:=Aside0.mk (blk_below (g:=gb464) (o:=.cells #[.int .i64 t460,.int .i64 t461,.int .i64 t462,.string t463] 25 (0,0)) (by (with_reducible repeat (first|refine blk_drewN ?_ _|refine blk_drew ?_|refine blk_alloc ?_ _));refine blk_put (cs:=#[.int .i64 t460,.int .i64 t461,.int .i64 t462,.string (⟨#[]⟩:ByteArray)]) ?_ 3 _ rfl;(with_reducible repeat (first|refine blk_drewN ?_ _|refine blk_drew ?_|refine blk_alloc ?_ _));refine blk_put (cs:=#[.int .i64 t460,.int .i64 t461,.int .i64 0,.string (⟨#[]⟩:ByteArray)]) ?_ 2 _ rfl;(with_reducible repeat (first|refine blk_drewN ?_ _|refine blk_drew ?_|refine blk_alloc ?_ _));refine blk_put (cs:=#[.int .i64 t460,.int .i64 0,.int .i64 0,.string (⟨#[]⟩:ByteArray)]) ?_ 1 _ rfl;(with_reducible repeat (first|refine blk_drewN ?_ _|refine blk_drew ?_|refine blk_alloc ?_ _));refine blk_put (cs:=#[.int .i64 0,.int .i64 0,.int .i64 0,.string (⟨#[]⟩:ByteArray)]) ?_ 0 _ rfl;(with_reducible repeat (first|refine blk_drewN ?_ _|refine blk_drew ?_|refine blk_alloc ?_ _));exact BK464.out) hb);have n3_:=Aside0.mk (below_step (by repeat (first|(with_reducible first|exact HB.out|apply below_alloc|apply pw_below_drewN|apply below_drew1|refine below_set ?_ GE464.out)|exact HB.out)) hb);clear HO459;clear BK464;clear HB;have HO459:=n0_;have HO467:=n1_;have BK464:=n2_;have HB:=n3_;clear n0_ n1_ n2_ n3_;(try clear hb);(try clear hb2);(try clear hk);(try clear hi);(try clear ho0))|((with_reducible refine gate_dst (N:=7) rfl ?_);(try (refine gate_guard (by rfl) ?_;dsimp only));refine box_event ?hg (N:=7) ?hd (cs:=#[.slice none 0 0,.int .i64 0,.int .i64 0,.int .i64 0,.string (⟨#[]⟩:ByteArray),.int .i64 0]) (t:=29) ?hr ?_;(case hd=>rfl);(case hg=>rfl);(case hr=>first|(go_simp;done)|(go_simp;rfl));intro gb473 hg w18 hbox hb;have n0_:=Aside0.mk (Kd.R_below (by (with_reducible repeat (first|apply Kd.R_alloc|apply Kd.R_drewN|apply Kd.R_drew));exact HO459.out) hb);have n1_:=Aside0.mk (Kd.R_below (by (with_reducible repeat (first|apply Kd.R_alloc|apply Kd.R_drewN|apply Kd.R_drew));exact HO467.out) hb);have n2_:=Aside0.mk (blk_below (g:=gb464) (o:=.cells #[.int .i64 t460,.int .i64 t461,.int .i64 t462,.string t463] 25 (0,0)) (by (with_reducible repeat (first|refine blk_drewN ?_ _|refine blk_drew ?_|refine blk_alloc ?_ _));exact BK464.out) hb);have n3_:=Aside0.mk (below_step (by repeat (first|(with_reducible first|exact HB.out|apply below_alloc|apply pw_below_drewN|apply below_drew1|refine below_set ?_ GE464.out)|exact HB.out)) hb);have n4_:=Aside0.mk (hbox);have n5_:=Aside0.mk ((by rw [hg];exact (below_size (by repeat (first|(with_reducible first|exact HB.out|apply below_alloc|apply pw_below_drewN|apply below_drew1|refine below_set ?_ GE464.out)|exact HB.out))):w.heap.size≤gb473));have n6_:=Aside0.mk ((by rw [hg];exact (below_size (by repeat (first|(with_reducible first|exact HB.out|apply below_alloc|apply pw_below_drewN|apply below_drew1|refine below_set ?_ GE464.out)|exact HB.out))):w.heap.size≤gb473));have n7_:=Aside0.mk ((by rw [hg];exact Nat.ne_of_lt (blk_lt (g:=gb464) (o:=.cells #[.int .i64 t460,.int .i64 t461,.int .i64 t462,.string t463] 25 (0,0)) (by (with_reducible repeat (first|refine blk_drewN ?_ _|refine blk_drew ?_|refine blk_alloc ?_ _));exact BK464.out)):gb464≠gb473));have n8_:=Aside0.mk ((by rw [hg];exact Nat.ne_of_gt (blk_lt (g:=gb464) (o:=.cells #[.int .i64 t460,.int .i64 t461,.int .i64 t462,.string t463] 25 (0,0)) (by (with_reducible repeat (first|refine blk_drewN ?_ _|refine blk_drew ?_|refine blk_alloc ?_ _));exact BK464.out)):gb473≠gb464));clear HO459;clear HO467;clear BK464;clear HB;have HO459:=n0_;have HO467:=n1_;have BK464:=n2_;have HB:=n3_;have BK473:=n4_;have GW473:=n5_;have GE473:=n6_;have NB464_473:=n7_;have NB473_464:=n8_;clear n0_ n1_ n2_ n3_ n4_ n5_ n6_ n7_ n8_;clear hb hbox hg;obtain ⟨Ao19,co19,eo19⟩:=Kd.R_slice HO467.out;subst eo19;have hnb20:=NB473_464.out;have hnc20:=NB464_473.out;have hcz21_0:w18.cell? ⟨gb473,0,none⟩ = some (.slice none 0 0):=(blk_cell BK473.out 0).trans rfl;have hcz21_1:w18.cell? ⟨gb473,1,none⟩ = some (.int .i64 0):=(blk_cell BK473.out 1).trans rfl;have hcz21_2:w18.cell? ⟨gb473,2,none⟩ = some (.int .i64 0):=(blk_cell BK473.out 2).trans rfl;have hcz21_3:w18.cell? ⟨gb473,3,none⟩ = some (.int .i64 0):=(blk_cell BK473.out 3).trans rfl;have hcz21_4:w18.cell? ⟨gb473,4,none⟩ = some (.string (⟨#[]⟩:ByteArray)):=(blk_cell BK473.out 4).trans rfl;have hcz21_5:w18.cell? ⟨gb473,5,none⟩ = some (.int .i64 0):=(blk_cell BK473.out 5).trans rfl;have hfz21_0:=blk_frozen BK473.out 0;have hfz21_1:=blk_frozen BK473.out 1;have hfz21_2:=blk_frozen BK473.out 2;have hfz21_3:=blk_frozen BK473.out 3;have hfz21_4:=blk_frozen BK473.out 4;have hfz21_5:=blk_frozen BK473.out 5)|((with_reducible refine gate_callee (f:=9) rfl ?_);refine goesL_ (some 33) rfl rfl Try.func9 (by kernel_rfl) rfl #[.slice A1 l1.length c1] rfl (by (try simp only [List.map_toArray,List.map_cons,List.map_nil]);first|done|rfl|(simp only [List.length_drop,List.length_take];rfl)) ?_;(with_reducible refine (spec_DrawQueueTake.calls kj2 _ _ l1 t474 _ ?side1 ?side2 A8.out).mono ?_);(case side1=>exact Kd.C_below HR1.out (by repeat (first|(with_reducible first|exact HB.out|apply below_alloc|apply pw_below_drewN|apply below_drew1|refine below_set ?_ GE464.out|refine below_set ?_ GE473.out)|exact HB.out)));(case side2=>exact HC1.out);rintro e w22 ⟨v475,rfl,ho0,hb⟩;refine ⟨_,rfl,?_⟩;have n0_:=Aside0.mk (Kd.R_elder' (by (with_reducible repeat (first|apply Kd.R_alloc|apply Kd.R_drewN|apply Kd.R_drew));exact (Kd.R_mono (Kd.R_far (p:=⟨gb473,5,none⟩) (Kd.R_far (p:=⟨gb473,4,none⟩) (Kd.R_far (p:=⟨gb473,3,none⟩) (Kd.R_far (p:=⟨gb473,2,none⟩) (Kd.R_far (p:=⟨gb473,1,none⟩) (Kd.R_far (p:=⟨gb473,0,none⟩) (Kd.R_types HO459.out BK473.out (by decide)) (fun _ hk=>hk.2) (.slice Ao19 t465.length co19)) (fun _ hk=>hk.2) (.int .i64 t468)) (fun _ hk=>hk.2) (.int .i64 t469)) (fun _ hk=>hk.2) (.int .i64 t470)) (fun _ hk=>hk.2) (.string t471)) (fun _ hk=>hk.2) (.int .i64 t472)) (fun _ h_=>h_.1))) (Kd.R_base ho0) hb);have n1_:=Aside0.mk (Kd.R_elder' (by (with_reducible repeat (first|apply Kd.R_alloc|apply Kd.R_drewN|apply Kd.R_drew));exact (Kd.R_mono (Kd.R_far (p:=⟨gb473,5,none⟩) (Kd.R_far (p:=⟨gb473,4,none⟩) (Kd.R_far (p:=⟨gb473,3,none⟩) (Kd.R_far (p:=⟨gb473,2,none⟩) (Kd.R_far (p:=⟨gb473,1,none⟩) (Kd.R_far (p:=⟨gb473,0,none⟩) (Kd.R_types HO467.out BK473.out (by decide)) (fun _ hk=>hk.2) (.slice Ao19 t465.length co19)) (fun _ hk=>hk.2) (.int .i64 t468)) (fun _ hk=>hk.2) (.int .i64 t469)) (fun _ hk=>hk.2) (.int .i64 t470)) (fun _ hk=>hk.2) (.string t471)) (fun _ hk=>hk.2) (.int .i64 t472)) (fun _ h_=>h_.1))) (Kd.R_base ho0) hb);have n2_:=Aside0.mk (Kd.R_lower (Kd.R_newB (Kd.R_new' (Kd.R_new' ho0 (Kd.R_lt (by (with_reducible repeat (first|apply Kd.R_alloc|apply Kd.R_drewN|apply Kd.R_drew));exact (Kd.R_mono (Kd.R_far (p:=⟨gb473,5,none⟩) (Kd.R_far (p:=⟨gb473,4,none⟩) (Kd.R_far (p:=⟨gb473,3,none⟩) (Kd.R_far (p:=⟨gb473,2,none⟩) (Kd.R_far (p:=⟨gb473,1,none⟩) (Kd.R_far (p:=⟨gb473,0,none⟩) (Kd.R_types HO459.out BK473.out (by decide)) (fun _ hk=>hk.2) (.slice Ao19 t465.length co19)) (fun _ hk=>hk.2) (.int .i64 t468)) (fun _ hk=>hk.2) (.int .i64 t469)) (fun _ hk=>hk.2) (.int .i64 t470)) (fun _ hk=>hk.2) (.string t471)) (fun _ hk=>hk.2) (.int .i64 t472)) (fun _ h_=>h_.1))))) (Kd.R_lt (by (with_reducible repeat (first|apply Kd.R_alloc|apply Kd.R_drewN|apply Kd.R_drew));exact (Kd.R_mono (Kd.R_far (p:=⟨gb473,5,none⟩) (Kd.R_far (p:=⟨gb473,4,none⟩) (Kd.R_far (p:=⟨gb473,3,none⟩) (Kd.R_far (p:=⟨gb473,2,none⟩) (Kd.R_far (p:=⟨gb473,1,none⟩) (Kd.R_far (p:=⟨gb473,0,none⟩) (Kd.R_types HO467.out BK473.out (by decide)) (fun _ hk=>hk.2) (.slice Ao19 t465.length co19)) (fun _ hk=>hk.2) (.int .i64 t468)) (fun _ hk=>hk.2) (.int .i64 t469)) (fun _ hk=>hk.2) (.int .i64 t470)) (fun _ hk=>hk.2) (.string t471)) (fun _ hk=>hk.2) (.int .i64 t472)) (fun _ h_=>h_.1))))) (g:=gb464) (o:=.cells #[.int .i64 t460,.int .i64 t461,.int .i64 t462,.string t463] 25 (0,0)) (by (with_reducible repeat (first|refine blk_drewN ?_ _|refine blk_drew ?_|refine blk_alloc ?_ _));refine blk_far ?_ NB464_473.out _;(with_reducible repeat (first|refine blk_drewN ?_ _|refine blk_drew ?_|refine blk_alloc ?_ _));refine blk_far ?_ NB464_473.out _;(with_reducible repeat (first|refine blk_drewN ?_ _|refine blk_drew ?_|refine blk_alloc ?_ _));refine blk_far ?_ NB464_473.out _;(with_reducible repeat (first|refine blk_drewN ?_ _|refine blk_drew ?_|refine blk_alloc ?_ _));refine blk_far ?_ NB464_473.out _;(with_reducible repeat (first|refine blk_drewN ?_ _|refine blk_drew ?_|refine blk_alloc ?_ _));refine blk_far ?_ NB464_473.out _;(with_reducible repeat (first|refine blk_drewN ?_ _|refine blk_drew ?_|refine blk_alloc ?_ _));refine blk_far ?_ NB464_473.out _;(with_reducible repeat (first|refine blk_drewN ?_ _|refine blk_drew ?_|refine blk_alloc ?_ _));exact BK464.out)) (below_size (by repeat (first|(with_reducible first|exact HB.out|apply below_alloc|apply pw_below_drewN|apply below_drew1|refine below_set ?_ GE464.out|refine below_set ?_ GE473.out)|exact HB.out))));have n3_:=Aside0.mk (blk_below (g:=gb464) (o:=.cells #[.int .i64 t460,.int .i64 t461,.int .i64 t462,.string t463] 25 (0,0)) (by (with_reducible repeat (first|refine blk_drewN ?_ _|refine blk_drew ?_|refine blk_alloc ?_ _));refine blk_far ?_ NB464_473.out _;(with_reducible repeat (first|refine blk_drewN ?_ _|refine blk_drew ?_|refine blk_alloc ?_ _));refine blk_far ?_ NB464_473.out _;(with_reducible repeat (first|refine blk_drewN ?_ _|refine blk_drew ?_|refine blk_alloc ?_ _));refine blk_far ?_ NB464_473.out _;(with_reducible repeat (first|refine blk_drewN ?_ _|refine blk_drew ?_|refine blk_alloc ?_ _));refine blk_far ?_ NB464_473.out _;(with_reducible repeat (first|refine blk_drewN ?_ _|refine blk_drew ?_|refine blk_alloc ?_ _));refine blk_far ?_ NB464_473.out _;(with_reducible repeat (first|refine blk_drewN ?_ _|refine blk_drew ?_|refine blk_alloc ?_ _));refine blk_far ?_ NB464_473.out _;(with_reducible repeat (first|refine blk_drewN ?_ _|refine blk_drew ?_|refine blk_alloc ?_ _));exact BK464.out) hb);have n4_:=Aside0.mk (blk_below (g:=gb473) (o:=.cells #[.slice Ao19 t465.length co19,.int .i64 t468,.int .i64 t469,.int .i64 t470,.string t471,.int .i64 t472] 29 (0,0)) (by (with_reducible repeat (first|refine blk_drewN ?_ _|refine blk_drew ?_|refine blk_alloc ?_ _));refine blk_put (cs:=#[.slice Ao19 t465.length co19,.int .i64 t468,.int .i64 t469,.int .i64 t470,.string t471,.int .i64 0]) ?_ 5 _ rfl;(with_reducible repeat (first|refine blk_drewN ?_ _|refine blk_drew ?_|refine blk_alloc ?_ _));refine blk_put (cs:=#[.slice Ao19 t465.length co19,.int .i64 t468,.int .i64 t469,.int .i64 t470,.string (⟨#[]⟩:ByteArray),.int .i64 0]) ?_ 4 _ rfl;(with_reducible repeat (first|refine blk_drewN ?_ _|refine blk_drew ?_|refine blk_alloc ?_ _));refine blk_put (cs:=#[.slice Ao19 t465.length co19,.int .i64 t468,.int .i64 t469,.int .i64 0,.string (⟨#[]⟩:ByteArray),.int .i64 0]) ?_ 3 _ rfl;(with_reducible repeat (first|refine blk_drewN ?_ _|refine blk_drew ?_|refine blk_alloc ?_ _));refine blk_put (cs:=#[.slice Ao19 t465.length co19,.int .i64 t468,.int .i64 0,.int .i64 0,.string (⟨#[]⟩:ByteArray),.int .i64 0]) ?_ 2 _ rfl;(with_reducible repeat (first|refine blk_drewN ?_ _|refine blk_drew ?_|refine blk_alloc ?_ _));refine blk_put (cs:=#[.slice Ao19 t465.length co19,.int .i64 0,.int .i64 0,.int .i64 0,.string (⟨#[]⟩:ByteArray),.int .i64 0]) ?_ 1 _ rfl;(with_reducible repeat (first|refine blk_drewN ?_ _|refine blk_drew ?_|refine blk_alloc ?_ _));refine blk_put (cs:=#[.slice none 0 0,.int .i64 0,.int .i64 0,.int .i64 0,.string (⟨#[]⟩:ByteArray),.int .i64 0]) ?_ 0 _ rfl;(with_reducible repeat (first|refine blk_drewN ?_ _|refine blk_drew ?_|refine blk_alloc ?_ _));exact BK473.out) hb);have n5_:=Aside0.mk (below_step (by repeat (first|(with_reducible first|exact HB.out|apply below_alloc|apply pw_below_drewN|apply below_drew1|refine below_set ?_ GE464.out|refine below_set ?_ GE473.out)|exact HB.out)) hb);clear HO459;clear HO467;clear BK464;clear BK473;clear HB;have HO459:=n0_;have HO467:=n1_;have HO476:=n2_;have BK464:=n3_;have BK473:=n4_;have HB:=n5_;clear n0_ n1_ n2_ n3_ n4_ n5_;(try clear hb);(try clear hb2);(try clear hk);(try clear hi);(try clear ho0);obtain ⟨Ao23,co23,eo23⟩:=Kd.R_slice HO476.out;subst eo23)|((with_reducible refine gate_callee (f:=10) rfl ?_);refine goesL_ (some 35) rfl rfl Try.func10 (by kernel_rfl) rfl #[.slice Ao23 t474.length co23] rfl (by (try simp only [List.map_toArray,List.map_cons,List.map_nil]);first|done|rfl|(simp only [List.length_drop,List.length_take];rfl)) ?_;(with_reducible refine (impl_QueueTake.calls kj2 _ _ t474 t477 t480 t481 t482 t483 t484 _ ?side1 ?side2 A9.out).mono ?_);(case side1=>repeat (first|exact (Kd.R_reads' HO476.out).2.2|(with_reducible refine Kd.C_alloc ?_ _)|(with_reducible refine Kd.C_drewN ?_ _)|(with_reducible refine Kd.C_drew ?_)));(case side2=>exact (Kd.R_reads' HO476.out).2.1);rintro e w24 ⟨v478,rfl,ho0,hb⟩;refine ⟨_,rfl,?_⟩;have n0_:=Aside0.mk (Kd.R_elder' (by (with_reducible repeat (first|apply Kd.R_alloc|apply Kd.R_drewN|apply Kd.R_drew));exact HO459.out) (Kd.R_base ho0) hb);have n1_:=Aside0.mk (Kd.R_elder' (by (with_reducible repeat (first|apply Kd.R_alloc|apply Kd.R_drewN|apply Kd.R_drew));exact HO467.out) (Kd.R_base ho0) hb);have n2_:=Aside0.mk (Kd.R_elder' (by (with_reducible repeat (first|apply Kd.R_alloc|apply Kd.R_drewN|apply Kd.R_drew));exact HO476.out) (Kd.R_base ho0) hb);have n3_:=Aside0.mk (Kd.R_lower (Kd.R_newB (Kd.R_new' (Kd.R_new' (Kd.R_new' ho0 (Kd.R_lt (by (with_reducible repeat (first|apply Kd.R_alloc|apply Kd.R_drewN|apply Kd.R_drew));exact HO459.out))) (Kd.R_lt (by (with_reducible repeat (first|apply Kd.R_alloc|apply Kd.R_drewN|apply Kd.R_drew));exact HO467.out))) (Kd.R_lt (by (with_reducible repeat (first|apply Kd.R_alloc|apply Kd.R_drewN|apply Kd.R_drew));exact HO476.out))) (g:=gb464) (o:=.cells #[.int .i64 t460,.int .i64 t461,.int .i64 t462,.string t463] 25 (0,0)) (by (with_reducible repeat (first|refine blk_drewN ?_ _|refine blk_drew ?_|refine blk_alloc ?_ _));exact BK464.out)) (below_size (by repeat (first|(with_reducible first|exact HB.out|apply below_alloc|apply pw_below_drewN|apply below_drew1|refine below_set ?_ GE464.out|refine below_set ?_ GE473.out)|exact HB.out))));have n4_:=Aside0.mk (blk_below (g:=gb464) (o:=.cells #[.int .i64 t460,.int .i64 t461,.int .i64 t462,.string t463] 25 (0,0)) (by (with_reducible repeat (first|refine blk_drewN ?_ _|refine blk_drew ?_|refine blk_alloc ?_ _));exact BK464.out) hb);have n5_:=Aside0.mk (blk_below (g:=gb473) (o:=.cells #[.slice Ao19 t465.length co19,.int .i64 t468,.int .i64 t469,.int .i64 t470,.string t471,.int .i64 t472] 29 (0,0)) (by (with_reducible repeat (first|refine blk_drewN ?_ _|refine blk_drew ?_|refine blk_alloc ?_ _));exact BK473.out) hb);have n6_:=Aside0.mk (below_step (by repeat (first|(with_reducible first|exact HB.out|apply below_alloc|apply pw_below_drewN|apply below_drew1|refine below_set ?_ GE464.out|refine below_set ?_ GE473.out)|exact HB.out)) hb);clear HO459;clear HO467;clear HO476;clear BK464;clear BK473;clear HB;have HO459:=n0_;have HO467:=n1_;have HO476:=n2_;have HO479:=n3_;have BK464:=n4_;have BK473:=n5_;have HB:=n6_;clear n0_ n1_ n2_ n3_ n4_ n5_ n6_;(try clear hb);(try clear hb2);(try clear hk);(try clear hi);(try clear ho0))|((with_reducible refine gate_dst (N:=9) rfl ?_);(try (refine gate_guard (by rfl) ?_;dsimp only));refine box_event ?hg (N:=9) ?hd (cs:=#[.slice none 0 0,.int .i64 0,.int .i64 0,.int .i64 0,.string (⟨#[]⟩:ByteArray),.int .i64 0]) (t:=29) ?hr ?_;(case hd=>rfl);(case hg=>rfl);(case hr=>first|(go_simp;done)|(go_simp;rfl));intro gb485 hg w25 hbox hb;have n0_:=Aside0.mk (Kd.R_below (by (with_reducible repeat (first|apply Kd.R_alloc|apply Kd.R_drewN|apply Kd.R_drew));exact HO459.out) hb);have n1_:=Aside0.mk (Kd.R_below (by (with_reducible repeat (first|apply Kd.R_alloc|apply Kd.R_drewN|apply Kd.R_drew));exact HO467.out) hb);have n2_:=Aside0.mk (Kd.R_below (by (with_reducible repeat (first|apply Kd.R_alloc|apply Kd.R_drewN|apply Kd.R_drew));exact HO476.out) hb);have n3_:=Aside0.mk (Kd.R_below (by (with_reducible repeat (first|apply Kd.R_alloc|apply Kd.R_drewN|apply Kd.R_drew));exact HO479.out) hb);have n4_:=Aside0.mk (blk_below (g:=gb464) (o:=.cells #[.int .i64 t460,.int .i64 t461,.int .i64 t462,.string t463] 25 (0,0)) (by (with_reducible repeat (first|refine blk_drewN ?_ _|refine blk_drew ?_|refine blk_alloc ?_ _));exact BK464.out) hb);have n5_:=Aside0.mk (blk_below (g:=gb473) (o:=.cells #[.slice Ao19 t465.length co19,.int .i64 t468,.int .i64 t469,.int .i64 t470,.string t471,.int .i64 t472] 29 (0,0)) (by (with_reducible repeat (first|refine blk_drewN ?_ _|refine blk_drew ?_|refine blk_alloc ?_ _));exact BK473.out) hb);have n6_:=Aside0.mk (below_step (by repeat (first|(with_reducible first|exact HB.out|apply below_alloc|apply pw_below_drewN|apply below_drew1|refine below_set ?_ GE464.out|refine below_set ?_ GE473.out)|exact HB.out)) hb);have n7_:=Aside0.mk (hbox);have n8_:=Aside0.mk ((by rw [hg];exact (below_size (by repeat (first|(with_reducible first|exact HB.out|apply below_alloc|apply pw_below_drewN|apply below_drew1|refine below_set ?_ GE464.out|refine below_set ?_ GE473.out)|exact HB.out))):w.heap.size≤gb485));have n9_:=Aside0.mk ((by rw [hg];exact (below_size (by repeat (first|(with_reducible first|exact HB.out|apply below_alloc|apply pw_below_drewN|apply below_drew1|refine below_set ?_ GE464.out|refine below_set ?_ GE473.out)|exact HB.out))):w.heap.size≤gb485));have n10_:=Aside0.mk ((by rw [hg];exact Nat.ne_of_lt (blk_lt (g:=gb464) (o:=.cells #[.int .i64 t460,.int .i64 t461,.int .i64 t462,.string t463] 25 (0,0)) (by (with_reducible repeat (first|refine blk_drewN ?_ _|refine blk_drew ?_|refine blk_alloc ?_ _));exact BK464.out)):gb464≠gb485));have n11_:=Aside0.mk ((by rw [hg];exact Nat.ne_of_gt (blk_lt (g:=gb464) (o:=.cells #[.int .i64 t460,.int .i64 t461,.int .i64 t462,.string t463] 25 (0,0)) (by (with_reducible repeat (first|refine blk_drewN ?_ _|refine blk_drew ?_|refine blk_alloc ?_ _));exact BK464.out)):gb485≠gb464));have n12_:=Aside0.mk ((by rw [hg];exact Nat.ne_of_lt (blk_lt (g:=gb473) (o:=.cells #[.slice Ao19 t465.length co19,.int .i64 t468,.int .i64 t469,.int .i64 t470,.string t471,.int .i64 t472] 29 (0,0)) (by (with_reducible repeat (first|refine blk_drewN ?_ _|refine blk_drew ?_|refine blk_alloc ?_ _));exact BK473.out)):gb473≠gb485));have n13_:=Aside0.mk ((by rw [hg];exact Nat.ne_of_gt (blk_lt (g:=gb473) (o:=.cells #[.slice Ao19 t465.length co19,.int .i64 t468,.int .i64 t469,.int .i64 t470,.string t471,.int .i64 t472] 29 (0,0)) (by (with_reducible repeat (first|refine blk_drewN ?_ _|refine blk_drew ?_|refine blk_alloc ?_ _));exact BK473.out)):gb485≠gb473));clear HO459;clear HO467;clear HO476;clear HO479;clear BK464;clear BK473;clear HB;have HO459:=n0_;have HO467:=n1_;have HO476:=n2_;have HO479:=n3_;have BK464:=n4_;have BK473:=n5_;have HB:=n6_;have BK485:=n7_;have GW485:=n8_;have GE485:=n9_;have NB464_485:=n10_;have NB485_464:=n11_;have NB473_485:=n12_;have NB485_473:=n13_;clear n0_ n1_ n2_ n3_ n4_ n5_ n6_ n7_ n8_ n9_ n10_ n11_ n12_ n13_;clear hb hbox hg;obtain ⟨Ao26,co26,eo26⟩:=Kd.R_slice HO479.out;subst eo26;have hnb27:=NB485_464.out;have hnc27:=NB464_485.out;have hnb28:=NB485_473.out;have hnc28:=NB473_485.out;have hcz29_0:w25.cell? ⟨gb485,0,none⟩ = some (.slice none 0 0):=(blk_cell BK485.out 0).trans rfl;have hcz29_1:w25.cell? ⟨gb485,1,none⟩ = some (.int .i64 0):=(blk_cell BK485.out 1).trans rfl;have hcz29_2:w25.cell? ⟨gb485,2,none⟩ = some (.int .i64 0):=(blk_cell BK485.out 2).trans rfl;have hcz29_3:w25.cell? ⟨gb485,3,none⟩ = some (.int .i64 0):=(blk_cell BK485.out 3).trans rfl;have hcz29_4:w25.cell? ⟨gb485,4,none⟩ = some (.string (⟨#[]⟩:ByteArray)):=(blk_cell BK485.out 4).trans rfl;have hcz29_5:w25.cell? ⟨gb485,5,none⟩ = some (.int .i64 0):=(blk_cell BK485.out 5).trans rfl;have hfz29_0:=blk_frozen BK485.out 0;have hfz29_1:=blk_frozen BK485.out 1;have hfz29_2:=blk_frozen BK485.out 2;have hfz29_3:=blk_frozen BK485.out 3;have hfz29_4:=blk_frozen BK485.out 4;have hfz29_5:=blk_frozen BK485.out 5)|((with_reducible refine gate_callee (f:=11) rfl ?_);refine goesL_ (some 38) rfl rfl Try.func11 (by kernel_rfl) rfl #[.slice A1 l1.length c1] rfl (by (try simp only [List.map_toArray,List.map_cons,List.map_nil]);first|done|rfl|(simp only [List.length_drop,List.length_take];rfl)) ?_;(with_reducible refine (spec_DrawQueueDrop.calls kj2 _ _ l1 t486 t487 _ ?side1 ?side2 A10.out).mono ?_);(case side1=>exact Kd.C_below HR1.out (by repeat (first|(with_reducible first|exact HB.out|apply below_alloc|apply pw_below_drewN|apply below_drew1|refine below_set ?_ GE464.out|refine below_set ?_ GE473.out|refine below_set ?_ GE485.out)|exact HB.out)));(case side2=>exact HC1.out);rintro e w30 ⟨v488,rfl,ho0,hb⟩;refine ⟨_,rfl,?_⟩;have n0_:=Aside0.mk (Kd.R_elder' (by (with_reducible repeat (first|apply Kd.R_alloc|apply Kd.R_drewN|apply Kd.R_drew));exact (Kd.R_mono (Kd.R_far (p:=⟨gb485,5,none⟩) (Kd.R_far (p:=⟨gb485,4,none⟩) (Kd.R_far (p:=⟨gb485,3,none⟩) (Kd.R_far (p:=⟨gb485,2,none⟩) (Kd.R_far (p:=⟨gb485,1,none⟩) (Kd.R_far (p:=⟨gb485,0,none⟩) (Kd.R_types HO459.out BK485.out (by decide)) (fun _ hk=>hk.2) (.slice Ao26 t477.length co26)) (fun _ hk=>hk.2) (.int .i64 t480)) (fun _ hk=>hk.2) (.int .i64 t481)) (fun _ hk=>hk.2) (.int .i64 t482)) (fun _ hk=>hk.2) (.string t483)) (fun _ hk=>hk.2) (.int .i64 t484)) (fun _ h_=>h_.1))) (Kd.R_base ho0) hb);have n1_:=Aside0.mk (Kd.R_elder' (by (with_reducible repeat (first|apply Kd.R_alloc|apply Kd.R_drewN|apply Kd.R_drew));exact (Kd.R_mono (Kd.R_far (p:=⟨gb485,5,none⟩) (Kd.R_far (p:=⟨gb485,4,none⟩) (Kd.R_far (p:=⟨gb485,3,none⟩) (Kd.R_far (p:=⟨gb485,2,none⟩) (Kd.R_far (p:=⟨gb485,1,none⟩) (Kd.R_far (p:=⟨gb485,0,none⟩) (Kd.R_types HO467.out BK485.out (by decide)) (fun _ hk=>hk.2) (.slice Ao26 t477.length co26)) (fun _ hk=>hk.2) (.int .i64 t480)) (fun _ hk=>hk.2) (.int .i64 t481)) (fun _ hk=>hk.2) (.int .i64 t482)) (fun _ hk=>hk.2) (.string t483)) (fun _ hk=>hk.2) (.int .i64 t484)) (fun _ h_=>h_.1))) (Kd.R_base ho0) hb);have n2_:=Aside0.mk (Kd.R_elder' (by (with_reducible repeat (first|apply Kd.R_alloc|apply Kd.R_drewN|apply Kd.R_drew));exact (Kd.R_mono (Kd.R_far (p:=⟨gb485,5,none⟩) (Kd.R_far (p:=⟨gb485,4,none⟩) (Kd.R_far (p:=⟨gb485,3,none⟩) (Kd.R_far (p:=⟨gb485,2,none⟩) (Kd.R_far (p:=⟨gb485,1,none⟩) (Kd.R_far (p:=⟨gb485,0,none⟩) (Kd.R_types HO476.out BK485.out (by decide)) (fun _ hk=>hk.2) (.slice Ao26 t477.length co26)) (fun _ hk=>hk.2) (.int .i64 t480)) (fun _ hk=>hk.2) (.int .i64 t481)) (fun _ hk=>hk.2) (.int .i64 t482)) (fun _ hk=>hk.2) (.string t483)) (fun _ hk=>hk.2) (.int .i64 t484)) (fun _ h_=>h_.1))) (Kd.R_base ho0) hb);have n3_:=Aside0.mk (Kd.R_elder' (by (with_reducible repeat (first|apply Kd.R_alloc|apply Kd.R_drewN|apply Kd.R_drew));exact (Kd.R_mono (Kd.R_far (p:=⟨gb485,5,none⟩) (Kd.R_far (p:=⟨gb485,4,none⟩) (Kd.R_far (p:=⟨gb485,3,none⟩) (Kd.R_far (p:=⟨gb485,2,none⟩) (Kd.R_far (p:=⟨gb485,1,none⟩) (Kd.R_far (p:=⟨gb485,0,none⟩) (Kd.R_types HO479.out BK485.out (by decide)) (fun _ hk=>hk.2) (.slice Ao26 t477.length co26)) (fun _ hk=>hk.2) (.int .i64 t480)) (fun _ hk=>hk.2) (.int .i64 t481)) (fun _ hk=>hk.2) (.int .i64 t482)) (fun _ hk=>hk.2) (.string t483)) (fun _ hk=>hk.2) (.int .i64 t484)) (fun _ h_=>h_.1))) (Kd.R_base ho0) hb);have n4_:=Aside0.mk (Kd.R_lower (Kd.R_newB (Kd.R_new' (Kd.R_new' (Kd.R_new' (Kd.R_new' ho0 (Kd.R_lt (by (with_reducible repeat (first|apply Kd.R_alloc|apply Kd.R_drewN|apply Kd.R_drew));exact (Kd.R_mono (Kd.R_far (p:=⟨gb485,5,none⟩) (Kd.R_far (p:=⟨gb485,4,none⟩) (Kd.R_far (p:=⟨gb485,3,none⟩) (Kd.R_far (p:=⟨gb485,2,none⟩) (Kd.R_far (p:=⟨gb485,1,none⟩) (Kd.R_far (p:=⟨gb485,0,none⟩) (Kd.R_types HO459.out BK485.out (by decide)) (fun _ hk=>hk.2) (.slice Ao26 t477.length co26)) (fun _ hk=>hk.2) (.int .i64 t480)) (fun _ hk=>hk.2) (.int .i64 t481)) (fun _ hk=>hk.2) (.int .i64 t482)) (fun _ hk=>hk.2) (.string t483)) (fun _ hk=>hk.2) (.int .i64 t484)) (fun _ h_=>h_.1))))) (Kd.R_lt (by (with_reducible repeat (first|apply Kd.R_alloc|apply Kd.R_drewN|apply Kd.R_drew));exact (Kd.R_mono (Kd.R_far (p:=⟨gb485,5,none⟩) (Kd.R_far (p:=⟨gb485,4,none⟩) (Kd.R_far (p:=⟨gb485,3,none⟩) (Kd.R_far (p:=⟨gb485,2,none⟩) (Kd.R_far (p:=⟨gb485,1,none⟩) (Kd.R_far (p:=⟨gb485,0,none⟩) (Kd.R_types HO467.out BK485.out (by decide)) (fun _ hk=>hk.2) (.slice Ao26 t477.length co26)) (fun _ hk=>hk.2) (.int .i64 t480)) (fun _ hk=>hk.2) (.int .i64 t481)) (fun _ hk=>hk.2) (.int .i64 t482)) (fun _ hk=>hk.2) (.string t483)) (fun _ hk=>hk.2) (.int .i64 t484)) (fun _ h_=>h_.1))))) (Kd.R_lt (by (with_reducible repeat (first|apply Kd.R_alloc|apply Kd.R_drewN|apply Kd.R_drew));exact (Kd.R_mono (Kd.R_far (p:=⟨gb485,5,none⟩) (Kd.R_far (p:=⟨gb485,4,none⟩) (Kd.R_far (p:=⟨gb485,3,none⟩) (Kd.R_far (p:=⟨gb485,2,none⟩) (Kd.R_far (p:=⟨gb485,1,none⟩) (Kd.R_far (p:=⟨gb485,0,none⟩) (Kd.R_types HO476.out BK485.out (by decide)) (fun _ hk=>hk.2) (.slice Ao26 t477.length co26)) (fun _ hk=>hk.2) (.int .i64 t480)) (fun _ hk=>hk.2) (.int .i64 t481)) (fun _ hk=>hk.2) (.int .i64 t482)) (fun _ hk=>hk.2) (.string t483)) (fun _ hk=>hk.2) (.int .i64 t484)) (fun _ h_=>h_.1))))) (Kd.R_lt (by (with_reducible repeat (first|apply Kd.R_alloc|apply Kd.R_drewN|apply Kd.R_drew));exact (Kd.R_mono (Kd.R_far (p:=⟨gb485,5,none⟩) (Kd.R_far (p:=⟨gb485,4,none⟩) (Kd.R_far (p:=⟨gb485,3,none⟩) (Kd.R_far (p:=⟨gb485,2,none⟩) (Kd.R_far (p:=⟨gb485,1,none⟩) (Kd.R_far (p:=⟨gb485,0,none⟩) (Kd.R_types HO479.out BK485.out (by decide)) (fun _ hk=>hk.2) (.slice Ao26 t477.length co26)) (fun _ hk=>hk.2) (.int .i64 t480)) (fun _ hk=>hk.2) (.int .i64 t481)) (fun _ hk=>hk.2) (.int .i64 t482)) (fun _ hk=>hk.2) (.string t483)) (fun _ hk=>hk.2) (.int .i64 t484)) (fun _ h_=>h_.1))))) (g:=gb464) (o:=.cells #[.int .i64 t460,.int .i64 t461,.int .i64 t462,.string t463] 25 (0,0)) (by (with_reducible repeat (first|refine blk_drewN ?_ _|refine blk_drew ?_|refine blk_alloc ?_ _));refine blk_far ?_ NB464_485.out _;(with_reducible repeat (first|refine blk_drewN ?_ _|refine blk_drew ?_|refine blk_alloc ?_ _));refine blk_far ?_ NB464_485.out _;(with_reducible repeat (first|refine blk_drewN ?_ _|refine blk_drew ?_|refine blk_alloc ?_ _));refine blk_far ?_ NB464_485.out _;(with_reducible repeat (first|refine blk_drewN ?_ _|refine blk_drew ?_|refine blk_alloc ?_ _));refine blk_far ?_ NB464_485.out _;(with_reducible repeat (first|refine blk_drewN ?_ _|refine blk_drew ?_|refine blk_alloc ?_ _));refine blk_far ?_ NB464_485.out _;(with_reducible repeat (first|refine blk_drewN ?_ _|refine blk_drew ?_|refine blk_alloc ?_ _));refine blk_far ?_ NB464_485.out _;(with_reducible repeat (first|refine blk_drewN ?_ _|refine blk_drew ?_|refine blk_alloc ?_ _));exact BK464.out)) (below_size (by repeat (first|(with_reducible first|exact HB.out|apply below_alloc|apply pw_below_drewN|apply below_drew1|refine below_set ?_ GE464.out|refine below_set ?_ GE473.out|refine below_set ?_ GE485.out)|exact HB.out))));have n5_:=Aside0.mk (blk_below (g:=gb464) (o:=.cells #[.int .i64 t460,.int .i64 t461,.int .i64 t462,.string t463] 25 (0,0)) (by (with_reducible repeat (first|refine blk_drewN ?_ _|refine blk_drew ?_|refine blk_alloc ?_ _));refine blk_far ?_ NB464_485.out _;(with_reducible repeat (first|refine blk_drewN ?_ _|refine blk_drew ?_|refine blk_alloc ?_ _));refine blk_far ?_ NB464_485.out _;(with_reducible repeat (first|refine blk_drewN ?_ _|refine blk_drew ?_|refine blk_alloc ?_ _));refine blk_far ?_ NB464_485.out _;(with_reducible repeat (first|refine blk_drewN ?_ _|refine blk_drew ?_|refine blk_alloc ?_ _));refine blk_far ?_ NB464_485.out _;(with_reducible repeat (first|refine blk_drewN ?_ _|refine blk_drew ?_|refine blk_alloc ?_ _));refine blk_far ?_ NB464_485.out _;(with_reducible repeat (first|refine blk_drewN ?_ _|refine blk_drew ?_|refine blk_alloc ?_ _));refine blk_far ?_ NB464_485.out _;(with_reducible repeat (first|refine blk_drewN ?_ _|refine blk_drew ?_|refine blk_alloc ?_ _));exact BK464.out) hb);have n6_:=Aside0.mk (blk_below (g:=gb473) (o:=.cells #[.slice Ao19 t465.length co19,.int .i64 t468,.int .i64 t469,.int .i64 t470,.string t471,.int .i64 t472] 29 (0,0)) (by (with_reducible repeat (first|refine blk_drewN ?_ _|refine blk_drew ?_|refine blk_alloc ?_ _));refine blk_far ?_ NB473_485.out _;(with_reducible repeat (first|refine blk_drewN ?_ _|refine blk_drew ?_|refine blk_alloc ?_ _));refine blk_far ?_ NB473_485.out _;(with_reducible repeat (first|refine blk_drewN ?_ _|refine blk_drew ?_|refine blk_alloc ?_ _));refine blk_far ?_ NB473_485.out _;(with_reducible repeat (first|refine blk_drewN ?_ _|refine blk_drew ?_|refine blk_alloc ?_ _));refine blk_far ?_ NB473_485.out _;(with_reducible repeat (first|refine blk_drewN ?_ _|refine blk_drew ?_|refine blk_alloc ?_ _));refine blk_far ?_ NB473_485.out _;(with_reducible repeat (first|refine blk_drewN ?_ _|refine blk_drew ?_|refine blk_alloc ?_ _));refine blk_far ?_ NB473_485.out _;(with_reducible repeat (first|refine blk_drewN ?_ _|refine blk_drew ?_|refine blk_alloc ?_ _));exact BK473.out) hb);have n7_:=Aside0.mk (blk_below (g:=gb485) (o:=.cells #[.slice Ao26 t477.length co26,.int .i64 t480,.int .i64 t481,.int .i64 t482,.string t483,.int .i64 t484] 29 (0,0)) (by (with_reducible repeat (first|refine blk_drewN ?_ _|refine blk_drew ?_|refine blk_alloc ?_ _));refine blk_put (cs:=#[.slice Ao26 t477.length co26,.int .i64 t480,.int .i64 t481,.int .i64 t482,.string t483,.int .i64 0]) ?_ 5 _ rfl;(with_reducible repeat (first|refine blk_drewN ?_ _|refine blk_drew ?_|refine blk_alloc ?_ _));refine blk_put (cs:=#[.slice Ao26 t477.length co26,.int .i64 t480,.int .i64 t481,.int .i64 t482,.string (⟨#[]⟩:ByteArray),.int .i64 0]) ?_ 4 _ rfl;(with_reducible repeat (first|refine blk_drewN ?_ _|refine blk_drew ?_|refine blk_alloc ?_ _));refine blk_put (cs:=#[.slice Ao26 t477.length co26,.int .i64 t480,.int .i64 t481,.int .i64 0,.string (⟨#[]⟩:ByteArray),.int .i64 0]) ?_ 3 _ rfl;(with_reducible repeat (first|refine blk_drewN ?_ _|refine blk_drew ?_|refine blk_alloc ?_ _));refine blk_put (cs:=#[.slice Ao26 t477.length co26,.int .i64 t480,.int .i64 0,.int .i64 0,.string (⟨#[]⟩:ByteArray),.int .i64 0]) ?_ 2 _ rfl;(with_reducible repeat (first|refine blk_drewN ?_ _|refine blk_drew ?_|refine blk_alloc ?_ _));refine blk_put (cs:=#[.slice Ao26 t477.length co26,.int .i64 0,.int .i64 0,.int .i64 0,.string (⟨#[]⟩:ByteArray),.int .i64 0]) ?_ 1 _ rfl;(with_reducible repeat (first|refine blk_drewN ?_ _|refine blk_drew ?_|refine blk_alloc ?_ _));refine blk_put (cs:=#[.slice none 0 0,.int .i64 0,.int .i64 0,.int .i64 0,.string (⟨#[]⟩:ByteArray),.int .i64 0]) ?_ 0 _ rfl;(with_reducible repeat (first|refine blk_drewN ?_ _|refine blk_drew ?_|refine blk_alloc ?_ _));exact BK485.out) hb);have n8_:=Aside0.mk (below_step (by repeat (first|(with_reducible first|exact HB.out|apply below_alloc|apply pw_below_drewN|apply below_drew1|refine below_set ?_ GE464.out|refine below_set ?_ GE473.out|refine below_set ?_ GE485.out)|exact HB.out)) hb);clear HO459;clear HO467;clear HO476;clear HO479;clear BK464;clear BK473;clear BK485;clear HB;have HO459:=n0_;have HO467:=n1_;have HO476:=n2_;have HO479:=n3_;have HO489:=n4_;have BK464:=n5_;have BK473:=n6_;have BK485:=n7_;have HB:=n8_;clear n0_ n1_ n2_ n3_ n4_ n5_ n6_ n7_ n8_;(try clear hb);(try clear hb2);(try clear hk);(try clear hi);(try clear ho0);obtain ⟨Ao31,co31,eo31⟩:=Kd.R_slice HO489.out;subst eo31)|((with_reducible refine gate_callee (f:=12) rfl ?_);refine goesL_ (some 43) rfl rfl Try.func12 (by kernel_rfl) rfl #[.slice Ao31 t486.length co31,.int .i64 t487] rfl (by (try simp only [List.map_toArray,List.map_cons,List.map_nil]);first|done|rfl|(simp only [List.length_drop,List.length_take];rfl)) ?_;(with_reducible refine (impl_QueueDrop.calls kj2 _ _ t486 t487 t490 t493 t494 t495 t496 t497 _ ?side1 ?side2 A11.out).mono ?_);(case side1=>repeat (first|exact (Kd.R_reads' HO489.out).2.2|(with_reducible refine Kd.C_alloc ?_ _)|(with_reducible refine Kd.C_drewN ?_ _)|(with_reducible refine Kd.C_drew ?_)));(case side2=>exact (Kd.R_reads' HO489.out).2.1);rintro e w32 ⟨v491,rfl,ho0,hb⟩;refine ⟨_,rfl,?_⟩;have n0_:=Aside0.mk (Kd.R_elder' (by (with_reducible repeat (first|apply Kd.R_alloc|apply Kd.R_drewN|apply Kd.R_drew));exact HO459.out) (Kd.R_base ho0) hb);have n1_:=Aside0.mk (Kd.R_elder' (by (with_reducible repeat (first|apply Kd.R_alloc|apply Kd.R_drewN|apply Kd.R_drew));exact HO467.out) (Kd.R_base ho0) hb);have n2_:=Aside0.mk (Kd.R_elder' (by (with_reducible repeat (first|apply Kd.R_alloc|apply Kd.R_drewN|apply Kd.R_drew));exact HO476.out) (Kd.R_base ho0) hb);have n3_:=Aside0.mk (Kd.R_elder' (by (with_reducible repeat (first|apply Kd.R_alloc|apply Kd.R_drewN|apply Kd.R_drew));exact HO479.out) (Kd.R_base ho0) hb);have n4_:=Aside0.mk (Kd.R_elder' (by (with_reducible repeat (first|apply Kd.R_alloc|apply Kd.R_drewN|apply Kd.R_drew));exact HO489.out) (Kd.R_base ho0) hb);have n5_:=Aside0.mk (Kd.R_lower (Kd.R_newB (Kd.R_new' (Kd.R_new' (Kd.R_new' (Kd.R_new' (Kd.R_new' ho0 (Kd.R_lt (by (with_reducible repeat (first|apply Kd.R_alloc|apply Kd.R_drewN|apply Kd.R_drew));exact HO459.out))) (Kd.R_lt (by (with_reducible repeat (first|apply Kd.R_alloc|apply Kd.R_drewN|apply Kd.R_drew));exact HO467.out))) (Kd.R_lt (by (with_reducible repeat (first|apply Kd.R_alloc|apply Kd.R_drewN|apply Kd.R_drew));exact HO476.out))) (Kd.R_lt (by (with_reducible repeat (first|apply Kd.R_alloc|apply Kd.R_drewN|apply Kd.R_drew));exact HO479.out))) (Kd.R_lt (by (with_reducible repeat (first|apply Kd.R_alloc|apply Kd.R_drewN|apply Kd.R_drew));exact HO489.out))) (g:=gb464) (o:=.cells #[.int .i64 t460,.int .i64 t461,.int .i64 t462,.string t463] 25 (0,0)) (by (with_reducible repeat (first|refine blk_drewN ?_ _|refine blk_drew ?_|refine blk_alloc ?_ _));exact BK464.out)) (below_size (by repeat (first|(with_reducible first|exact HB.out|apply below_alloc|apply pw_below_drewN|apply below_drew1|refine below_set ?_ GE464.out|refine below_set ?_ GE473.out|refine below_set ?_ GE485.out)|exact HB.out))));have n6_:=Aside0.mk (blk_below (g:=gb464) (o:=.cells #[.int .i64 t460,.int .i64 t461,.int .i64 t462,.string t463] 25 (0,0)) (by (with_reducible repeat (first|refine blk_drewN ?_ _|refine blk_drew ?_|refine blk_alloc ?_ _));exact BK464.out) hb);have n7_:=Aside0.mk (blk_below (g:=gb473) (o:=.cells #[.slice Ao19 t465.length co19,.int .i64 t468,.int .i64 t469,.int .i64 t470,.string t471,.int .i64 t472] 29 (0,0)) (by (with_reducible repeat (first|refine blk_drewN ?_ _|refine blk_drew ?_|refine blk_alloc ?_ _));exact BK473.out) hb);have n8_:=Aside0.mk (blk_below (g:=gb485) (o:=.cells #[.slice Ao26 t477.length co26,.int .i64 t480,.int .i64 t481,.int .i64 t482,.string t483,.int .i64 t484] 29 (0,0)) (by (with_reducible repeat (first|refine blk_drewN ?_ _|refine blk_drew ?_|refine blk_alloc ?_ _));exact BK485.out) hb);have n9_:=Aside0.mk (below_step (by repeat (first|(with_reducible first|exact HB.out|apply below_alloc|apply pw_below_drewN|apply below_drew1|refine below_set ?_ GE464.out|refine below_set ?_ GE473.out|refine below_set ?_ GE485.out)|exact HB.out)) hb);clear HO459;clear HO467;clear HO476;clear HO479;clear HO489;clear BK464;clear BK473;clear BK485;clear HB;have HO459:=n0_;have HO467:=n1_;have HO476:=n2_;have HO479:=n3_;have HO489:=n4_;have HO492:=n5_;have BK464:=n6_;have BK473:=n7_;have BK485:=n8_;have HB:=n9_;clear n0_ n1_ n2_ n3_ n4_ n5_ n6_ n7_ n8_ n9_;(try clear hb);(try clear hb2);(try clear hk);(try clear hi);(try clear ho0))|((with_reducible refine gate_dst (N:=12) rfl ?_);(try (refine gate_guard (by rfl) ?_;dsimp only));refine box_event ?hg (N:=12) ?hd (cs:=#[.slice none 0 0,.int .i64 0,.int .i64 0,.int .i64 0,.string (⟨#[]⟩:ByteArray),.int .i64 0]) (t:=29) ?hr ?_;(case hd=>rfl);(case hg=>rfl);(case hr=>first|(go_simp;done)|(go_simp;rfl));intro gb498 hg w33 hbox hb;have n0_:=Aside0.mk (Kd.R_below (by (with_reducible repeat (first|apply Kd.R_alloc|apply Kd.R_drewN|apply Kd.R_drew));exact HO459.out) hb);have n1_:=Aside0.mk (Kd.R_below (by (with_reducible repeat (first|apply Kd.R_alloc|apply Kd.R_drewN|apply Kd.R_drew));exact HO467.out) hb);have n2_:=Aside0.mk (Kd.R_below (by (with_reducible repeat (first|apply Kd.R_alloc|apply Kd.R_drewN|apply Kd.R_drew));exact HO476.out) hb);have n3_:=Aside0.mk (Kd.R_below (by (with_reducible repeat (first|apply Kd.R_alloc|apply Kd.R_drewN|apply Kd.R_drew));exact HO479.out) hb);have n4_:=Aside0.mk (Kd.R_below (by (with_reducible repeat (first|apply Kd.R_alloc|apply Kd.R_drewN|apply Kd.R_drew));exact HO489.out) hb);have n5_:=Aside0.mk (Kd.R_below (by (with_reducible repeat (first|apply Kd.R_alloc|apply Kd.R_drewN|apply Kd.R_drew));exact HO492.out) hb);have n6_:=Aside0.mk (blk_below (g:=gb464) (o:=.cells #[.int .i64 t460,.int .i64 t461,.int .i64 t462,.string t463] 25 (0,0)) (by (with_reducible repeat (first|refine blk_drewN ?_ _|refine blk_drew ?_|refine blk_alloc ?_ _));exact BK464.out) hb);have n7_:=Aside0.mk (blk_below (g:=gb473) (o:=.cells #[.slice Ao19 t465.length co19,.int .i64 t468,.int .i64 t469,.int .i64 t470,.string t471,.int .i64 t472] 29 (0,0)) (by (with_reducible repeat (first|refine blk_drewN ?_ _|refine blk_drew ?_|refine blk_alloc ?_ _));exact BK473.out) hb);have n8_:=Aside0.mk (blk_below (g:=gb485) (o:=.cells #[.slice Ao26 t477.length co26,.int .i64 t480,.int .i64 t481,.int .i64 t482,.string t483,.int .i64 t484] 29 (0,0)) (by (with_reducible repeat (first|refine blk_drewN ?_ _|refine blk_drew ?_|refine blk_alloc ?_ _));exact BK485.out) hb);have n9_:=Aside0.mk (below_step (by repeat (first|(with_reducible first|exact HB.out|apply below_alloc|apply pw_below_drewN|apply below_drew1|refine below_set ?_ GE464.out|refine below_set ?_ GE473.out|refine below_set ?_ GE485.out)|exact HB.out)) hb);have n10_:=Aside0.mk (hbox);have n11_:=Aside0.mk ((by rw [hg];exact (below_size (by repeat (first|(with_reducible first|exact HB.out|apply below_alloc|apply pw_below_drewN|apply below_drew1|refine below_set ?_ GE464.out|refine below_set ?_ GE473.out|refine below_set ?_ GE485.out)|exact HB.out))):w.heap.size≤gb498));have n12_:=Aside0.mk ((by rw [hg];exact (below_size (by repeat (first|(with_reducible first|exact HB.out|apply below_alloc|apply pw_below_drewN|apply below_drew1|refine below_set ?_ GE464.out|refine below_set ?_ GE473.out|refine below_set ?_ GE485.out)|exact HB.out))):w.heap.size≤gb498));have n13_:=Aside0.mk ((by rw [hg];exact Nat.ne_of_lt (blk_lt (g:=gb464) (o:=.cells #[.int .i64 t460,.int .i64 t461,.int .i64 t462,.string t463] 25 (0,0)) (by (with_reducible repeat (first|refine blk_drewN ?_ _|refine blk_drew ?_|refine blk_alloc ?_ _));exact BK464.out)):gb464≠gb498));have n14_:=Aside0.mk ((by rw [hg];exact Nat.ne_of_gt (blk_lt (g:=gb464) (o:=.cells #[.int .i64 t460,.int .i64 t461,.int .i64 t462,.string t463] 25 (0,0)) (by (with_reducible repeat (first|refine blk_drewN ?_ _|refine blk_drew ?_|refine blk_alloc ?_ _));exact BK464.out)):gb498≠gb464));have n15_:=Aside0.mk ((by rw [hg];exact Nat.ne_of_lt (blk_lt (g:=gb473) (o:=.cells #[.slice Ao19 t465.length co19,.int .i64 t468,.int .i64 t469,.int .i64 t470,.string t471,.int .i64 t472] 29 (0,0)) (by (with_reducible repeat (first|refine blk_drewN ?_ _|refine blk_drew ?_|refine blk_alloc ?_ _));exact BK473.out)):gb473≠gb498));have n16_:=Aside0.mk ((by rw [hg];exact Nat.ne_of_gt (blk_lt (g:=gb473) (o:=.cells #[.slice Ao19 t465.length co19,.int .i64 t468,.int .i64 t469,.int .i64 t470,.string t471,.int .i64 t472] 29 (0,0)) (by (with_reducible repeat (first|refine blk_drewN ?_ _|refine blk_drew ?_|refine blk_alloc ?_ _));exact BK473.out)):gb498≠gb473));have n17_:=Aside0.mk ((by rw [hg];exact Nat.ne_of_lt (blk_lt (g:=gb485) (o:=.cells #[.slice Ao26 t477.length co26,.int .i64 t480,.int .i64 t481,.int .i64 t482,.string t483,.int .i64 t484] 29 (0,0)) (by (with_reducible repeat (first|refine blk_drewN ?_ _|refine blk_drew ?_|refine blk_alloc ?_ _));exact BK485.out)):gb485≠gb498));have n18_:=Aside0.mk ((by rw [hg];exact Nat.ne_of_gt (blk_lt (g:=gb485) (o:=.cells #[.slice Ao26 t477.length co26,.int .i64 t480,.int .i64 t481,.int .i64 t482,.string t483,.int .i64 t484] 29 (0,0)) (by (with_reducible repeat (first|refine blk_drewN ?_ _|refine blk_drew ?_|refine blk_alloc ?_ _));exact BK485.out)):gb498≠gb485));clear HO459;clear HO467;clear HO476;clear HO479;clear HO489;clear HO492;clear BK464;clear BK473;clear BK485;clear HB;have HO459:=n0_;have HO467:=n1_;have HO476:=n2_;have HO479:=n3_;have HO489:=n4_;have HO492:=n5_;have BK464:=n6_;have BK473:=n7_;have BK485:=n8_;have HB:=n9_;have BK498:=n10_;have GW498:=n11_;have GE498:=n12_;have NB464_498:=n13_;have NB498_464:=n14_;have NB473_498:=n15_;have NB498_473:=n16_;have NB485_498:=n17_;have NB498_485:=n18_;clear n0_ n1_ n2_ n3_ n4_ n5_ n6_ n7_ n8_ n9_ n10_ n11_ n12_ n13_ n14_ n15_ n16_ n17_ n18_;clear hb hbox hg;obtain ⟨Ao34,co34,eo34⟩:=Kd.R_slice HO492.out;subst eo34;have hnb35:=NB498_464.out;have hnc35:=NB464_498.out;have hnb36:=NB498_473.out;have hnc36:=NB473_498.out;have hnb37:=NB498_485.out;have hnc37:=NB485_498.out;have hcz38_0:w33.cell? ⟨gb498,0,none⟩ = some (.slice none 0 0):=(blk_cell BK498.out 0).trans rfl;have hcz38_1:w33.cell? ⟨gb498,1,none⟩ = some (.int .i64 0):=(blk_cell BK498.out 1).trans rfl;have hcz38_2:w33.cell? ⟨gb498,2,none⟩ = some (.int .i64 0):=(blk_cell BK498.out 2).trans rfl;have hcz38_3:w33.cell? ⟨gb498,3,none⟩ = some (.int .i64 0):=(blk_cell BK498.out 3).trans rfl;have hcz38_4:w33.cell? ⟨gb498,4,none⟩ = some (.string (⟨#[]⟩:ByteArray)):=(blk_cell BK498.out 4).trans rfl;have hcz38_5:w33.cell? ⟨gb498,5,none⟩ = some (.int .i64 0):=(blk_cell BK498.out 5).trans rfl;have hfz38_0:=blk_frozen BK498.out 0;have hfz38_1:=blk_frozen BK498.out 1;have hfz38_2:=blk_frozen BK498.out 2;have hfz38_3:=blk_frozen BK498.out 3;have hfz38_4:=blk_frozen BK498.out 4;have hfz38_5:=blk_frozen BK498.out 5))
    (try simp only [Act.put,List.setIfInBounds_toArray,List.set_cons_zero,List.set_cons_succ])
    go_cut [71] (fun v71 wc=>∃ (kq:Nat) (x71_11:Bool),v71 = .bool x71_11∧Aside0 (laws_FnQueue.j1 kq t474 t487 x71_11 t465 t468 t469 t470 t471 t472 t477 t480 t481 t482 t483 t484 t490 t493 t494 t495 t496 t497 = some r)∧Aside0 (kq≤kj2)∧Aside0 (Kd.R k25 25 wc w.heap.size (fun k_=>some k_≠((.slice Ao19 t465.length co19):Value).ownBlock∧some k_≠((.slice Ao26 t477.length co26):Value).ownBlock∧some k_≠((.slice Ao34 t490.length co34):Value).ownBlock∧k_≠gb464) (.slice Ao23 t474.length co23) t474)∧Aside0 (Kd.R k25 25 wc w.heap.size (fun k_=>some k_≠((.slice Ao23 t474.length co23):Value).ownBlock∧some k_≠((.slice Ao26 t477.length co26):Value).ownBlock∧some k_≠((.slice Ao34 t490.length co34):Value).ownBlock∧k_≠gb464) (.slice Ao19 t465.length co19) t465)∧Aside0 (Kd.R k25 25 wc w.heap.size (fun k_=>some k_≠((.slice Ao23 t474.length co23):Value).ownBlock∧some k_≠((.slice Ao19 t465.length co19):Value).ownBlock∧some k_≠((.slice Ao34 t490.length co34):Value).ownBlock∧k_≠gb464) (.slice Ao26 t477.length co26) t477)∧Aside0 (Kd.R k25 25 wc w.heap.size (fun k_=>some k_≠((.slice Ao23 t474.length co23):Value).ownBlock∧some k_≠((.slice Ao19 t465.length co19):Value).ownBlock∧some k_≠((.slice Ao26 t477.length co26):Value).ownBlock∧k_≠gb464) (.slice Ao34 t490.length co34) t490)∧Aside0 (wc.heap[gb464]? = some (.cells #[.int .i64 t460,.int .i64 t461,.int .i64 t462,.string t463] 25 (0,0)))∧Aside0 (wc.heap[gb473]? = some (.cells #[(.slice Ao19 t465.length co19),.int .i64 t468,.int .i64 t469,.int .i64 t470,.string t471,.int .i64 t472] 29 (0,0)))∧Aside0 (wc.heap[gb485]? = some (.cells #[(.slice Ao26 t477.length co26),.int .i64 t480,.int .i64 t481,.int .i64 t482,.string t483,.int .i64 t484] 29 (0,0)))∧Aside0 (wc.heap[gb498]? = some (.cells #[(.slice Ao34 t490.length co34),.int .i64 t493,.int .i64 t494,.int .i64 t495,.string t496,.int .i64 t497] 29 (0,0)))∧Aside0 (Below w.heap.size w wc))
    case first =>
     as_aux_lemma =>
     have H:=HC12.out
     clear HC12
     replace H:=Option.bind_eq_some_iff.mp H
     obtain ⟨⟨t499,t502,t503,t504,t505,t506⟩,A390,H⟩:=H
     replace H:((laws_lwQueues.f kj2 t465 t468 t469 t470 t471 t472 t499 t502 t503 t504 t505 t506).bind fun t507=>(if t507 = true then ((spec_QueueTake.f kj2 t474).bind fun bt508=>((laws_lwQueues.f kj2 t477 t480 t481 t482 t483 t484 bt508.1 bt508.2.1 bt508.2.2.1 bt508.2.2.2.1 bt508.2.2.2.2.1 bt508.2.2.2.2.2).bind fun t516=>(if t516 = true then ((spec_QueueDrop.f kj2 t486 t487).bind fun bt517=>((laws_lwQueues.f kj2 t490 t493 t494 t495 t496 t497 bt517.1 bt517.2.1 bt517.2.2.1 bt517.2.2.2.1 bt517.2.2.2.2.1 bt517.2.2.2.2.2).bind fun t525=>(if t525 = true then ((impl_QueueRight.f kj2 t457).bind fun t526=>((spec_QueueRight.f kj2 t457).bind fun t527=>(laws_FnQueue.j1 kj2 t474 t487 (t526 != t527) t465 t468 t469 t470 t471 t472 t477 t480 t481 t482 t483 t484 t490 t493 t494 t495 t496 t497))) else (laws_FnQueue.j1 kj2 t474 t487 true t465 t468 t469 t470 t471 t472 t477 t480 t481 t482 t483 t484 t490 t493 t494 t495 t496 t497)))) else (laws_FnQueue.j1 kj2 t474 t487 true t465 t468 t469 t470 t471 t472 t477 t480 t481 t482 t483 t484 t490 t493 t494 t495 t496 t497)))) else (laws_FnQueue.j1 kj2 t474 t487 true t465 t468 t469 t470 t471 t472 t477 t480 t481 t482 t483 t484 t490 t493 t494 t495 t496 t497))) = some r:=H
     have A39:=Aside0.mk A390
     clear A390
     replace H:=Option.bind_eq_some_iff.mp H
     obtain ⟨t507,A400,H⟩:=H
     replace H:(if t507 = true then ((spec_QueueTake.f kj2 t474).bind fun bt508=>((laws_lwQueues.f kj2 t477 t480 t481 t482 t483 t484 bt508.1 bt508.2.1 bt508.2.2.1 bt508.2.2.2.1 bt508.2.2.2.2.1 bt508.2.2.2.2.2).bind fun t516=>(if t516 = true then ((spec_QueueDrop.f kj2 t486 t487).bind fun bt517=>((laws_lwQueues.f kj2 t490 t493 t494 t495 t496 t497 bt517.1 bt517.2.1 bt517.2.2.1 bt517.2.2.2.1 bt517.2.2.2.2.1 bt517.2.2.2.2.2).bind fun t525=>(if t525 = true then ((impl_QueueRight.f kj2 t457).bind fun t526=>((spec_QueueRight.f kj2 t457).bind fun t527=>(laws_FnQueue.j1 kj2 t474 t487 (t526 != t527) t465 t468 t469 t470 t471 t472 t477 t480 t481 t482 t483 t484 t490 t493 t494 t495 t496 t497))) else (laws_FnQueue.j1 kj2 t474 t487 true t465 t468 t469 t470 t471 t472 t477 t480 t481 t482 t483 t484 t490 t493 t494 t495 t496 t497)))) else (laws_FnQueue.j1 kj2 t474 t487 true t465 t468 t469 t470 t471 t472 t477 t480 t481 t482 t483 t484 t490 t493 t494 t495 t496 t497)))) else (laws_FnQueue.j1 kj2 t474 t487 true t465 t468 t469 t470 t471 t472 t477 t480 t481 t482 t483 t484 t490 t493 t494 t495 t496 t497)) = some r:=H
     have A40:=Aside0.mk A400
     clear A400
     by_cases c41:t507 = true
     ·subst c41
      have H1:((spec_QueueTake.f kj2 t474).bind fun bt508=>((laws_lwQueues.f kj2 t477 t480 t481 t482 t483 t484 bt508.1 bt508.2.1 bt508.2.2.1 bt508.2.2.2.1 bt508.2.2.2.2.1 bt508.2.2.2.2.2).bind fun t516=>(if t516 = true then ((spec_QueueDrop.f kj2 t486 t487).bind fun bt517=>((laws_lwQueues.f kj2 t490 t493 t494 t495 t496 t497 bt517.1 bt517.2.1 bt517.2.2.1 bt517.2.2.2.1 bt517.2.2.2.2.1 bt517.2.2.2.2.2).bind fun t525=>(if t525 = true then ((impl_QueueRight.f kj2 t457).bind fun t526=>((spec_QueueRight.f kj2 t457).bind fun t527=>(laws_FnQueue.j1 kj2 t474 t487 (t526 != t527) t465 t468 t469 t470 t471 t472 t477 t480 t481 t482 t483 t484 t490 t493 t494 t495 t496 t497))) else (laws_FnQueue.j1 kj2 t474 t487 true t465 t468 t469 t470 t471 t472 t477 t480 t481 t482 t483 t484 t490 t493 t494 t495 t496 t497)))) else (laws_FnQueue.j1 kj2 t474 t487 true t465 t468 t469 t470 t471 t472 t477 t480 t481 t482 t483 t484 t490 t493 t494 t495 t496 t497)))) = some r:=by rw [if_pos rfl] at H;exact H
      clear H
      have H:=H1
      clear H1
      replace H:=Option.bind_eq_some_iff.mp H
      obtain ⟨⟨t508,t511,t512,t513,t514,t515⟩,A420,H⟩:=H
      replace H:((laws_lwQueues.f kj2 t477 t480 t481 t482 t483 t484 t508 t511 t512 t513 t514 t515).bind fun t516=>(if t516 = true then ((spec_QueueDrop.f kj2 t486 t487).bind fun bt517=>((laws_lwQueues.f kj2 t490 t493 t494 t495 t496 t497 bt517.1 bt517.2.1 bt517.2.2.1 bt517.2.2.2.1 bt517.2.2.2.2.1 bt517.2.2.2.2.2).bind fun t525=>(if t525 = true then ((impl_QueueRight.f kj2 t457).bind fun t526=>((spec_QueueRight.f kj2 t457).bind fun t527=>(laws_FnQueue.j1 kj2 t474 t487 (t526 != t527) t465 t468 t469 t470 t471 t472 t477 t480 t481 t482 t483 t484 t490 t493 t494 t495 t496 t497))) else (laws_FnQueue.j1 kj2 t474 t487 true t465 t468 t469 t470 t471 t472 t477 t480 t481 t482 t483 t484 t490 t493 t494 t495 t496 t497)))) else (laws_FnQueue.j1 kj2 t474 t487 true t465 t468 t469 t470 t471 t472 t477 t480 t481 t482 t483 t484 t490 t493 t494 t495 t496 t497))) = some r:=H
      have A42:=Aside0.mk A420
      clear A420
      replace H:=Option.bind_eq_some_iff.mp H
      obtain ⟨t516,A430,H⟩:=H
      replace H:(if t516 = true then ((spec_QueueDrop.f kj2 t486 t487).bind fun bt517=>((laws_lwQueues.f kj2 t490 t493 t494 t495 t496 t497 bt517.1 bt517.2.1 bt517.2.2.1 bt517.2.2.2.1 bt517.2.2.2.2.1 bt517.2.2.2.2.2).bind fun t525=>(if t525 = true then ((impl_QueueRight.f kj2 t457).bind fun t526=>((spec_QueueRight.f kj2 t457).bind fun t527=>(laws_FnQueue.j1 kj2 t474 t487 (t526 != t527) t465 t468 t469 t470 t471 t472 t477 t480 t481 t482 t483 t484 t490 t493 t494 t495 t496 t497))) else (laws_FnQueue.j1 kj2 t474 t487 true t465 t468 t469 t470 t471 t472 t477 t480 t481 t482 t483 t484 t490 t493 t494 t495 t496 t497)))) else (laws_FnQueue.j1 kj2 t474 t487 true t465 t468 t469 t470 t471 t472 t477 t480 t481 t482 t483 t484 t490 t493 t494 t495 t496 t497)) = some r:=H
      have A43:=Aside0.mk A430
      clear A430
      by_cases c44:t516 = true
      ·subst c44
       have H1:((spec_QueueDrop.f kj2 t486 t487).bind fun bt517=>((laws_lwQueues.f kj2 t490 t493 t494 t495 t496 t497 bt517.1 bt517.2.1 bt517.2.2.1 bt517.2.2.2.1 bt517.2.2.2.2.1 bt517.2.2.2.2.2).bind fun t525=>(if t525 = true then ((impl_QueueRight.f kj2 t457).bind fun t526=>((spec_QueueRight.f kj2 t457).bind fun t527=>(laws_FnQueue.j1 kj2 t474 t487 (t526 != t527) t465 t468 t469 t470 t471 t472 t477 t480 t481 t482 t483 t484 t490 t493 t494 t495 t496 t497))) else (laws_FnQueue.j1 kj2 t474 t487 true t465 t468 t469 t470 t471 t472 t477 t480 t481 t482 t483 t484 t490 t493 t494 t495 t496 t497)))) = some r:=by rw [if_pos rfl] at H;exact H
       clear H
       have H:=H1
       clear H1
       replace H:=Option.bind_eq_some_iff.mp H
       obtain ⟨⟨t517,t520,t521,t522,t523,t524⟩,A450,H⟩:=H
       replace H:((laws_lwQueues.f kj2 t490 t493 t494 t495 t496 t497 t517 t520 t521 t522 t523 t524).bind fun t525=>(if t525 = true then ((impl_QueueRight.f kj2 t457).bind fun t526=>((spec_QueueRight.f kj2 t457).bind fun t527=>(laws_FnQueue.j1 kj2 t474 t487 (t526 != t527) t465 t468 t469 t470 t471 t472 t477 t480 t481 t482 t483 t484 t490 t493 t494 t495 t496 t497))) else (laws_FnQueue.j1 kj2 t474 t487 true t465 t468 t469 t470 t471 t472 t477 t480 t481 t482 t483 t484 t490 t493 t494 t495 t496 t497))) = some r:=H
       have A45:=Aside0.mk A450
       clear A450
       replace H:=Option.bind_eq_some_iff.mp H
       obtain ⟨t525,A460,H⟩:=H
       replace H:(if t525 = true then ((impl_QueueRight.f kj2 t457).bind fun t526=>((spec_QueueRight.f kj2 t457).bind fun t527=>(laws_FnQueue.j1 kj2 t474 t487 (t526 != t527) t465 t468 t469 t470 t471 t472 t477 t480 t481 t482 t483 t484 t490 t493 t494 t495 t496 t497))) else (laws_FnQueue.j1 kj2 t474 t487 true t465 t468 t469 t470 t471 t472 t477 t480 t481 t482 t483 t484 t490 t493 t494 t495 t496 t497)) = some r:=H
       have A46:=Aside0.mk A460
       clear A460
       by_cases c47:t525 = true
       ·subst c47
        have H1:((impl_QueueRight.f kj2 t457).bind fun t526=>((spec_QueueRight.f kj2 t457).bind fun t527=>(laws_FnQueue.j1 kj2 t474 t487 (t526 != t527) t465 t468 t469 t470 t471 t472 t477 t480 t481 t482 t483 t484 t490 t493 t494 t495 t496 t497))) = some r:=by rw [if_pos rfl] at H;exact H
        clear H
        have H:=H1
        clear H1
        replace H:=Option.bind_eq_some_iff.mp H
        obtain ⟨t526,A480,H⟩:=H
        replace H:((spec_QueueRight.f kj2 t457).bind fun t527=>(laws_FnQueue.j1 kj2 t474 t487 (t526 != t527) t465 t468 t469 t470 t471 t472 t477 t480 t481 t482 t483 t484 t490 t493 t494 t495 t496 t497)) = some r:=H
        have A48:=Aside0.mk A480
        clear A480
        replace H:=Option.bind_eq_some_iff.mp H
        obtain ⟨t527,A490,H⟩:=H
        replace H:(laws_FnQueue.j1 kj2 t474 t487 (t526 != t527) t465 t468 t469 t470 t471 t472 t477 t480 t481 t482 t483 t484 t490 t493 t494 t495 t496 t497) = some r:=H
        have A49:=Aside0.mk A490
        clear A490
        have H':=Aside0.mk H
        clear H
        try go_wp2
        have n0_:Aside0 (Kd.R k25 25 ((((((w33.setCell ⟨gb498,0,none⟩ (.slice Ao34 t490.length co34)).setCell ⟨gb498,1,none⟩ (.int .i64 t493)).setCell ⟨gb498,2,none⟩ (.int .i64 t494)).setCell ⟨gb498,3,none⟩ (.int .i64 t495)).setCell ⟨gb498,4,none⟩ (.string t496)).setCell ⟨gb498,5,none⟩ (.int .i64 t497)) w.heap.size (fun k_=>some k_≠(.slice Ao19 t465.length co19:Value).ownBlock∧some k_≠(.slice Ao23 t474.length co23:Value).ownBlock∧some k_≠(.slice Ao26 t477.length co26:Value).ownBlock∧some k_≠(.slice Ao31 t486.length co31:Value).ownBlock∧some k_≠(.slice Ao34 t490.length co34:Value).ownBlock∧k_≠gb464) (.slice Ao16 t457.length co16) t457):=⟨by (with_reducible repeat (first|apply Kd.R_alloc|apply Kd.R_drewN|apply Kd.R_drew));exact Kd.R_mono (Kd.R_far (p:=⟨gb498,5,none⟩) (Kd.R_far (p:=⟨gb498,4,none⟩) (Kd.R_far (p:=⟨gb498,3,none⟩) (Kd.R_far (p:=⟨gb498,2,none⟩) (Kd.R_far (p:=⟨gb498,1,none⟩) (Kd.R_far (p:=⟨gb498,0,none⟩) (Kd.R_types HO459.out BK498.out (by decide)) (fun _ hk=>hk.2) (.slice Ao34 t490.length co34)) (fun _ hk=>hk.2) (.int .i64 t493)) (fun _ hk=>hk.2) (.int .i64 t494)) (fun _ hk=>hk.2) (.int .i64 t495)) (fun _ hk=>hk.2) (.string t496)) (fun _ hk=>hk.2) (.int .i64 t497)) (fun _ hk=>⟨hk.1.1.1.1.1.2,⟨hk.1.1.1.1.2,⟨hk.1.1.1.2,⟨hk.1.1.2,⟨hk.1.2,hk.1.1.1.1.1.1.2⟩⟩⟩⟩⟩)⟩
        have n1_:Aside0 (Kd.R k25 25 ((((((w33.setCell ⟨gb498,0,none⟩ (.slice Ao34 t490.length co34)).setCell ⟨gb498,1,none⟩ (.int .i64 t493)).setCell ⟨gb498,2,none⟩ (.int .i64 t494)).setCell ⟨gb498,3,none⟩ (.int .i64 t495)).setCell ⟨gb498,4,none⟩ (.string t496)).setCell ⟨gb498,5,none⟩ (.int .i64 t497)) w.heap.size (fun k_=>some k_≠(.slice Ao16 t457.length co16:Value).ownBlock∧some k_≠(.slice Ao23 t474.length co23:Value).ownBlock∧some k_≠(.slice Ao26 t477.length co26:Value).ownBlock∧some k_≠(.slice Ao31 t486.length co31:Value).ownBlock∧some k_≠(.slice Ao34 t490.length co34:Value).ownBlock∧k_≠gb464) (.slice Ao19 t465.length co19) t465):=⟨by (with_reducible repeat (first|apply Kd.R_alloc|apply Kd.R_drewN|apply Kd.R_drew));exact Kd.R_mono (Kd.R_far (p:=⟨gb498,5,none⟩) (Kd.R_far (p:=⟨gb498,4,none⟩) (Kd.R_far (p:=⟨gb498,3,none⟩) (Kd.R_far (p:=⟨gb498,2,none⟩) (Kd.R_far (p:=⟨gb498,1,none⟩) (Kd.R_far (p:=⟨gb498,0,none⟩) (Kd.R_types HO467.out BK498.out (by decide)) (fun _ hk=>hk.2) (.slice Ao34 t490.length co34)) (fun _ hk=>hk.2) (.int .i64 t493)) (fun _ hk=>hk.2) (.int .i64 t494)) (fun _ hk=>hk.2) (.int .i64 t495)) (fun _ hk=>hk.2) (.string t496)) (fun _ hk=>hk.2) (.int .i64 t497)) (fun _ hk=>⟨hk.1.1.1.1.1.1.2,⟨hk.1.1.1.1.2,⟨hk.1.1.1.2,⟨hk.1.1.2,⟨hk.1.2,hk.1.1.1.1.1.2⟩⟩⟩⟩⟩)⟩
        have n2_:Aside0 (Kd.R k25 25 ((((((w33.setCell ⟨gb498,0,none⟩ (.slice Ao34 t490.length co34)).setCell ⟨gb498,1,none⟩ (.int .i64 t493)).setCell ⟨gb498,2,none⟩ (.int .i64 t494)).setCell ⟨gb498,3,none⟩ (.int .i64 t495)).setCell ⟨gb498,4,none⟩ (.string t496)).setCell ⟨gb498,5,none⟩ (.int .i64 t497)) w.heap.size (fun k_=>some k_≠(.slice Ao16 t457.length co16:Value).ownBlock∧some k_≠(.slice Ao19 t465.length co19:Value).ownBlock∧some k_≠(.slice Ao26 t477.length co26:Value).ownBlock∧some k_≠(.slice Ao31 t486.length co31:Value).ownBlock∧some k_≠(.slice Ao34 t490.length co34:Value).ownBlock∧k_≠gb464) (.slice Ao23 t474.length co23) t474):=⟨by (with_reducible repeat (first|apply Kd.R_alloc|apply Kd.R_drewN|apply Kd.R_drew));exact Kd.R_mono (Kd.R_far (p:=⟨gb498,5,none⟩) (Kd.R_far (p:=⟨gb498,4,none⟩) (Kd.R_far (p:=⟨gb498,3,none⟩) (Kd.R_far (p:=⟨gb498,2,none⟩) (Kd.R_far (p:=⟨gb498,1,none⟩) (Kd.R_far (p:=⟨gb498,0,none⟩) (Kd.R_types HO476.out BK498.out (by decide)) (fun _ hk=>hk.2) (.slice Ao34 t490.length co34)) (fun _ hk=>hk.2) (.int .i64 t493)) (fun _ hk=>hk.2) (.int .i64 t494)) (fun _ hk=>hk.2) (.int .i64 t495)) (fun _ hk=>hk.2) (.string t496)) (fun _ hk=>hk.2) (.int .i64 t497)) (fun _ hk=>⟨hk.1.1.1.1.1.1.2,⟨hk.1.1.1.1.1.2,⟨hk.1.1.1.2,⟨hk.1.1.2,⟨hk.1.2,hk.1.1.1.1.2⟩⟩⟩⟩⟩)⟩
        have n3_:Aside0 (Kd.R k25 25 ((((((w33.setCell ⟨gb498,0,none⟩ (.slice Ao34 t490.length co34)).setCell ⟨gb498,1,none⟩ (.int .i64 t493)).setCell ⟨gb498,2,none⟩ (.int .i64 t494)).setCell ⟨gb498,3,none⟩ (.int .i64 t495)).setCell ⟨gb498,4,none⟩ (.string t496)).setCell ⟨gb498,5,none⟩ (.int .i64 t497)) w.heap.size (fun k_=>some k_≠(.slice Ao16 t457.length co16:Value).ownBlock∧some k_≠(.slice Ao19 t465.length co19:Value).ownBlock∧some k_≠(.slice Ao23 t474.length co23:Value).ownBlock∧some k_≠(.slice Ao31 t486.length co31:Value).ownBlock∧some k_≠(.slice Ao34 t490.length co34:Value).ownBlock∧k_≠gb464) (.slice Ao26 t477.length co26) t477):=⟨by (with_reducible repeat (first|apply Kd.R_alloc|apply Kd.R_drewN|apply Kd.R_drew));exact Kd.R_mono (Kd.R_far (p:=⟨gb498,5,none⟩) (Kd.R_far (p:=⟨gb498,4,none⟩) (Kd.R_far (p:=⟨gb498,3,none⟩) (Kd.R_far (p:=⟨gb498,2,none⟩) (Kd.R_far (p:=⟨gb498,1,none⟩) (Kd.R_far (p:=⟨gb498,0,none⟩) (Kd.R_types HO479.out BK498.out (by decide)) (fun _ hk=>hk.2) (.slice Ao34 t490.length co34)) (fun _ hk=>hk.2) (.int .i64 t493)) (fun _ hk=>hk.2) (.int .i64 t494)) (fun _ hk=>hk.2) (.int .i64 t495)) (fun _ hk=>hk.2) (.string t496)) (fun _ hk=>hk.2) (.int .i64 t497)) (fun _ hk=>⟨hk.1.1.1.1.1.1.2,⟨hk.1.1.1.1.1.2,⟨hk.1.1.1.1.2,⟨hk.1.1.2,⟨hk.1.2,hk.1.1.1.2⟩⟩⟩⟩⟩)⟩
        have n4_:Aside0 (Kd.R k25 25 ((((((w33.setCell ⟨gb498,0,none⟩ (.slice Ao34 t490.length co34)).setCell ⟨gb498,1,none⟩ (.int .i64 t493)).setCell ⟨gb498,2,none⟩ (.int .i64 t494)).setCell ⟨gb498,3,none⟩ (.int .i64 t495)).setCell ⟨gb498,4,none⟩ (.string t496)).setCell ⟨gb498,5,none⟩ (.int .i64 t497)) w.heap.size (fun k_=>some k_≠(.slice Ao16 t457.length co16:Value).ownBlock∧some k_≠(.slice Ao19 t465.length co19:Value).ownBlock∧some k_≠(.slice Ao23 t474.length co23:Value).ownBlock∧some k_≠(.slice Ao26 t477.length co26:Value).ownBlock∧some k_≠(.slice Ao34 t490.length co34:Value).ownBlock∧k_≠gb464) (.slice Ao31 t486.length co31) t486):=⟨by (with_reducible repeat (first|apply Kd.R_alloc|apply Kd.R_drewN|apply Kd.R_drew));exact Kd.R_mono (Kd.R_far (p:=⟨gb498,5,none⟩) (Kd.R_far (p:=⟨gb498,4,none⟩) (Kd.R_far (p:=⟨gb498,3,none⟩) (Kd.R_far (p:=⟨gb498,2,none⟩) (Kd.R_far (p:=⟨gb498,1,none⟩) (Kd.R_far (p:=⟨gb498,0,none⟩) (Kd.R_types HO489.out BK498.out (by decide)) (fun _ hk=>hk.2) (.slice Ao34 t490.length co34)) (fun _ hk=>hk.2) (.int .i64 t493)) (fun _ hk=>hk.2) (.int .i64 t494)) (fun _ hk=>hk.2) (.int .i64 t495)) (fun _ hk=>hk.2) (.string t496)) (fun _ hk=>hk.2) (.int .i64 t497)) (fun _ hk=>⟨hk.1.1.1.1.1.1.2,⟨hk.1.1.1.1.1.2,⟨hk.1.1.1.1.2,⟨hk.1.1.1.2,⟨hk.1.2,hk.1.1.2⟩⟩⟩⟩⟩)⟩
        have n5_:Aside0 (Kd.R k25 25 ((((((w33.setCell ⟨gb498,0,none⟩ (.slice Ao34 t490.length co34)).setCell ⟨gb498,1,none⟩ (.int .i64 t493)).setCell ⟨gb498,2,none⟩ (.int .i64 t494)).setCell ⟨gb498,3,none⟩ (.int .i64 t495)).setCell ⟨gb498,4,none⟩ (.string t496)).setCell ⟨gb498,5,none⟩ (.int .i64 t497)) w.heap.size (fun k_=>some k_≠(.slice Ao16 t457.length co16:Value).ownBlock∧some k_≠(.slice Ao19 t465.length co19:Value).ownBlock∧some k_≠(.slice Ao23 t474.length co23:Value).ownBlock∧some k_≠(.slice Ao26 t477.length co26:Value).ownBlock∧some k_≠(.slice Ao31 t486.length co31:Value).ownBlock∧k_≠gb464) (.slice Ao34 t490.length co34) t490):=⟨by (with_reducible repeat (first|apply Kd.R_alloc|apply Kd.R_drewN|apply Kd.R_drew));exact Kd.R_mono (Kd.R_far (p:=⟨gb498,5,none⟩) (Kd.R_far (p:=⟨gb498,4,none⟩) (Kd.R_far (p:=⟨gb498,3,none⟩) (Kd.R_far (p:=⟨gb498,2,none⟩) (Kd.R_far (p:=⟨gb498,1,none⟩) (Kd.R_far (p:=⟨gb498,0,none⟩) (Kd.R_types HO492.out BK498.out (by decide)) (fun _ hk=>hk.2) (.slice Ao34 t490.length co34)) (fun _ hk=>hk.2) (.int .i64 t493)) (fun _ hk=>hk.2) (.int .i64 t494)) (fun _ hk=>hk.2) (.int .i64 t495)) (fun _ hk=>hk.2) (.string t496)) (fun _ hk=>hk.2) (.int .i64 t497)) (fun _ hk=>⟨hk.1.1.1.1.1.1.2,⟨hk.1.1.1.1.1.2,⟨hk.1.1.1.1.2,⟨hk.1.1.1.2,⟨hk.1.1.2,hk.1.2⟩⟩⟩⟩⟩)⟩
        have n6_:Aside0 (((((((w33.setCell ⟨gb498,0,none⟩ (.slice Ao34 t490.length co34)).setCell ⟨gb498,1,none⟩ (.int .i64 t493)).setCell ⟨gb498,2,none⟩ (.int .i64 t494)).setCell ⟨gb498,3,none⟩ (.int .i64 t495)).setCell ⟨gb498,4,none⟩ (.string t496)).setCell ⟨gb498,5,none⟩ (.int .i64 t497)).heap[gb464]? = some (.cells #[.int .i64 t460,.int .i64 t461,.int .i64 t462,.string t463] 25 (0,0))):=⟨by (with_reducible repeat (first|refine blk_drewN ?_ _|refine blk_drew ?_|refine blk_alloc ?_ _));refine blk_far ?_ NB464_498.out _;(with_reducible repeat (first|refine blk_drewN ?_ _|refine blk_drew ?_|refine blk_alloc ?_ _));refine blk_far ?_ NB464_498.out _;(with_reducible repeat (first|refine blk_drewN ?_ _|refine blk_drew ?_|refine blk_alloc ?_ _));refine blk_far ?_ NB464_498.out _;(with_reducible repeat (first|refine blk_drewN ?_ _|refine blk_drew ?_|refine blk_alloc ?_ _));refine blk_far ?_ NB464_498.out _;(with_reducible repeat (first|refine blk_drewN ?_ _|refine blk_drew ?_|refine blk_alloc ?_ _));refine blk_far ?_ NB464_498.out _;(with_reducible repeat (first|refine blk_drewN ?_ _|refine blk_drew ?_|refine blk_alloc ?_ _));refine blk_far ?_ NB464_498.out _;(with_reducible repeat (first|refine blk_drewN ?_ _|refine blk_drew ?_|refine blk_alloc ?_ _));exact BK464.out⟩
        have n7_:Aside0 (((((((w33.setCell ⟨gb498,0,none⟩ (.slice Ao34 t490.length co34)).setCell ⟨gb498,1,none⟩ (.int .i64 t493)).setCell ⟨gb498,2,none⟩ (.int .i64 t494)).setCell ⟨gb498,3,none⟩ (.int .i64 t495)).setCell ⟨gb498,4,none⟩ (.string t496)).setCell ⟨gb498,5,none⟩ (.int .i64 t497)).heap[gb473]? = some (.cells #[.slice Ao19 t465.length co19,.int .i64 t468,.int .i64 t469,.int .i64 t470,.string t471,.int .i64 t472] 29 (0,0))):=⟨by (with_reducible repeat (first|refine blk_drewN ?_ _|refine blk_drew ?_|refine blk_alloc ?_ _));refine blk_far ?_ NB473_498.out _;(with_reducible repeat (first|refine blk_drewN ?_ _|refine blk_drew ?_|refine blk_alloc ?_ _));refine blk_far ?_ NB473_498.out _;(with_reducible repeat (first|refine blk_drewN ?_ _|refine blk_drew ?_|refine blk_alloc ?_ _));refine blk_far ?_ NB473_498.out _;(with_reducible repeat (first|refine blk_drewN ?_ _|refine blk_drew ?_|refine blk_alloc ?_ _));refine blk_far ?_ NB473_498.out _;(with_reducible repeat (first|refine blk_drewN ?_ _|refine blk_drew ?_|refine blk_alloc ?_ _));refine blk_far ?_ NB473_498.out _;(with_reducible repeat (first|refine blk_drewN ?_ _|refine blk_drew ?_|refine blk_alloc ?_ _));refine blk_far ?_ NB473_498.out _;(with_reducible repeat (first|refine blk_drewN ?_ _|refine blk_drew ?_|refine blk_alloc ?_ _));exact BK473.out⟩
        have n8_:Aside0 (((((((w33.setCell ⟨gb498,0,none⟩ (.slice Ao34 t490.length co34)).setCell ⟨gb498,1,none⟩ (.int .i64 t493)).setCell ⟨gb498,2,none⟩ (.int .i64 t494)).setCell ⟨gb498,3,none⟩ (.int .i64 t495)).setCell ⟨gb498,4,none⟩ (.string t496)).setCell ⟨gb498,5,none⟩ (.int .i64 t497)).heap[gb485]? = some (.cells #[.slice Ao26 t477.length co26,.int .i64 t480,.int .i64 t481,.int .i64 t482,.string t483,.int .i64 t484] 29 (0,0))):=⟨by (with_reducible repeat (first|refine blk_drewN ?_ _|refine blk_drew ?_|refine blk_alloc ?_ _));refine blk_far ?_ NB485_498.out _;(with_reducible repeat (first|refine blk_drewN ?_ _|refine blk_drew ?_|refine blk_alloc ?_ _));refine blk_far ?_ NB485_498.out _;(with_reducible repeat (first|refine blk_drewN ?_ _|refine blk_drew ?_|refine blk_alloc ?_ _));refine blk_far ?_ NB485_498.out _;(with_reducible repeat (first|refine blk_drewN ?_ _|refine blk_drew ?_|refine blk_alloc ?_ _));refine blk_far ?_ NB485_498.out _;(with_reducible repeat (first|refine blk_drewN ?_ _|refine blk_drew ?_|refine blk_alloc ?_ _));refine blk_far ?_ NB485_498.out _;(with_reducible repeat (first|refine blk_drewN ?_ _|refine blk_drew ?_|refine blk_alloc ?_ _));refine blk_far ?_ NB485_498.out _;(with_reducible repeat (first|refine blk_drewN ?_ _|refine blk_drew ?_|refine blk_alloc ?_ _));exact BK485.out⟩
        have n9_:Aside0 (((((((w33.setCell ⟨gb498,0,none⟩ (.slice Ao34 t490.length co34)).setCell ⟨gb498,1,none⟩ (.int .i64 t493)).setCell ⟨gb498,2,none⟩ (.int .i64 t494)).setCell ⟨gb498,3,none⟩ (.int .i64 t495)).setCell ⟨gb498,4,none⟩ (.string t496)).setCell ⟨gb498,5,none⟩ (.int .i64 t497)).heap[gb498]? = some (.cells #[.slice Ao34 t490.length co34,.int .i64 t493,.int .i64 t494,.int .i64 t495,.string t496,.int .i64 t497] 29 (0,0))):=⟨by (with_reducible repeat (first|refine blk_drewN ?_ _|refine blk_drew ?_|refine blk_alloc ?_ _));refine blk_put (cs:=#[.slice Ao34 t490.length co34,.int .i64 t493,.int .i64 t494,.int .i64 t495,.string t496,.int .i64 0]) ?_ 5 _ rfl;(with_reducible repeat (first|refine blk_drewN ?_ _|refine blk_drew ?_|refine blk_alloc ?_ _));refine blk_put (cs:=#[.slice Ao34 t490.length co34,.int .i64 t493,.int .i64 t494,.int .i64 t495,.string (⟨#[]⟩:ByteArray),.int .i64 0]) ?_ 4 _ rfl;(with_reducible repeat (first|refine blk_drewN ?_ _|refine blk_drew ?_|refine blk_alloc ?_ _));refine blk_put (cs:=#[.slice Ao34 t490.length co34,.int .i64 t493,.int .i64 t494,.int .i64 0,.string (⟨#[]⟩:ByteArray),.int .i64 0]) ?_ 3 _ rfl;(with_reducible repeat (first|refine blk_drewN ?_ _|refine blk_drew ?_|refine blk_alloc ?_ _));refine blk_put (cs:=#[.slice Ao34 t490.length co34,.int .i64 t493,.int .i64 0,.int .i64 0,.string (⟨#[]⟩:ByteArray),.int .i64 0]) ?_ 2 _ rfl;(with_reducible repeat (first|refine blk_drewN ?_ _|refine blk_drew ?_|refine blk_alloc ?_ _));refine blk_put (cs:=#[.slice Ao34 t490.length co34,.int .i64 0,.int .i64 0,.int .i64 0,.string (⟨#[]⟩:ByteArray),.int .i64 0]) ?_ 1 _ rfl;(with_reducible repeat (first|refine blk_drewN ?_ _|refine blk_drew ?_|refine blk_alloc ?_ _));refine blk_put (cs:=#[.slice none 0 0,.int .i64 0,.int .i64 0,.int .i64 0,.string (⟨#[]⟩:ByteArray),.int .i64 0]) ?_ 0 _ rfl;(with_reducible repeat (first|refine blk_drewN ?_ _|refine blk_drew ?_|refine blk_alloc ?_ _));exact BK498.out⟩
        have n10_:Aside0 (Below w.heap.size w ((((((w33.setCell ⟨gb498,0,none⟩ (.slice Ao34 t490.length co34)).setCell ⟨gb498,1,none⟩ (.int .i64 t493)).setCell ⟨gb498,2,none⟩ (.int .i64 t494)).setCell ⟨gb498,3,none⟩ (.int .i64 t495)).setCell ⟨gb498,4,none⟩ (.string t496)).setCell ⟨gb498,5,none⟩ (.int .i64 t497))):=⟨by repeat (first|(with_reducible first|exact HB.out|apply below_alloc|apply pw_below_drewN|apply below_drew1|refine below_set ?_ GE464.out|refine below_set ?_ GE473.out|refine below_set ?_ GE485.out|refine below_set ?_ GE498.out)|exact HB.out)⟩
        (try clear HO459)
        (try clear HO467)
        (try clear HO476)
        (try clear HO479)
        (try clear HO489)
        (try clear HO492)
        (try clear BK464)
        (try clear BK473)
        (try clear BK485)
        (try clear BK498)
        (try clear HB)
        generalize ((((((w33.setCell ⟨gb498,0,none⟩ (.slice Ao34 t490.length co34)).setCell ⟨gb498,1,none⟩ (.int .i64 t493)).setCell ⟨gb498,2,none⟩ (.int .i64 t494)).setCell ⟨gb498,3,none⟩ (.int .i64 t495)).setCell ⟨gb498,4,none⟩ (.string t496)).setCell ⟨gb498,5,none⟩ (.int .i64 t497)) = w50 at n0_ n1_ n2_ n3_ n4_ n5_ n6_ n7_ n8_ n9_ n10_ ⊢
        have HO459:=n0_
        have HO467:=n1_
        have HO476:=n2_
        have HO479:=n3_
        have HO489:=n4_
        have HO492:=n5_
        have BK464:=n6_
        have BK473:=n7_
        have BK485:=n8_
        have BK498:=n9_
        have HB:=n10_
        clear n0_ n1_ n2_ n3_ n4_ n5_ n6_ n7_ n8_ n9_ n10_
        have n0_:=Aside0.mk (Kd.R_drew HO459.out)
        have n1_:=Aside0.mk (Kd.R_drew HO467.out)
        have n2_:=Aside0.mk (Kd.R_drew HO476.out)
        have n3_:=Aside0.mk (Kd.R_drew HO479.out)
        have n4_:=Aside0.mk (Kd.R_drew HO489.out)
        have n5_:=Aside0.mk (Kd.R_drew HO492.out)
        have n6_:=Aside0.mk (blk_drew BK464.out)
        have n7_:=Aside0.mk (blk_drew BK473.out)
        have n8_:=Aside0.mk (blk_drew BK485.out)
        have n9_:=Aside0.mk (blk_drew BK498.out)
        have n10_:=Aside0.mk (below_drew1 HB.out)
        clear HO459
        clear HO467
        clear HO476
        clear HO479
        clear HO489
        clear HO492
        clear BK464
        clear BK473
        clear BK485
        clear BK498
        clear HB
        have HO459:=n0_
        have HO467:=n1_
        have HO476:=n2_
        have HO479:=n3_
        have HO489:=n4_
        have HO492:=n5_
        have BK464:=n6_
        have BK473:=n7_
        have BK485:=n8_
        have BK498:=n9_
        have HB:=n10_
        clear n0_ n1_ n2_ n3_ n4_ n5_ n6_ n7_ n8_ n9_ n10_
        refine start_ (n:=28) (S:=fun w'=>w'.cell? ⟨gb473,0,none⟩ = some (.slice Ao19 t465.length co19)∧w'.cell? ⟨gb473,1,none⟩ = some (.int .i64 t468)∧w'.cell? ⟨gb473,2,none⟩ = some (.int .i64 t469)∧w'.cell? ⟨gb473,3,none⟩ = some (.int .i64 t470)∧w'.cell? ⟨gb473,4,none⟩ = some (.string t471)∧w'.cell? ⟨gb473,5,none⟩ = some (.int .i64 t472)∧w'.cell? ⟨gb464,0,none⟩ = some (.int .i64 t460)∧w'.cell? ⟨gb464,1,none⟩ = some (.int .i64 t461)∧w'.cell? ⟨gb464,2,none⟩ = some (.int .i64 t462)∧w'.cell? ⟨gb464,3,none⟩ = some (.string t463)∧w'.cell? ⟨gb485,0,none⟩ = some (.slice Ao26 t477.length co26)∧w'.cell? ⟨gb485,1,none⟩ = some (.int .i64 t480)∧w'.cell? ⟨gb485,2,none⟩ = some (.int .i64 t481)∧w'.cell? ⟨gb485,3,none⟩ = some (.int .i64 t482)∧w'.cell? ⟨gb485,4,none⟩ = some (.string t483)∧w'.cell? ⟨gb485,5,none⟩ = some (.int .i64 t484)∧w'.cell? ⟨gb498,0,none⟩ = some (.slice Ao34 t490.length co34)∧w'.cell? ⟨gb498,1,none⟩ = some (.int .i64 t493)∧w'.cell? ⟨gb498,2,none⟩ = some (.int .i64 t494)∧w'.cell? ⟨gb498,3,none⟩ = some (.int .i64 t495)∧w'.cell? ⟨gb498,4,none⟩ = some (.string t496)∧w'.cell? ⟨gb498,5,none⟩ = some (.int .i64 t497)) (ds:=[]) #[false,false,false,false,false,false,false,false,false,false,false,false,false,false,false,false,false,false,false,false,false,false,false,false,false,false,false,false] (by kernel_rfl) rfl rfl ⟨(blk_cell BK473.out 0).trans rfl,(blk_cell BK473.out 1).trans rfl,(blk_cell BK473.out 2).trans rfl,(blk_cell BK473.out 3).trans rfl,(blk_cell BK473.out 4).trans rfl,(blk_cell BK473.out 5).trans rfl,(blk_cell BK464.out 0).trans rfl,(blk_cell BK464.out 1).trans rfl,(blk_cell BK464.out 2).trans rfl,(blk_cell BK464.out 3).trans rfl,(blk_cell BK485.out 0).trans rfl,(blk_cell BK485.out 1).trans rfl,(blk_cell BK485.out 2).trans rfl,(blk_cell BK485.out 3).trans rfl,(blk_cell BK485.out 4).trans rfl,(blk_cell BK485.out 5).trans rfl,(blk_cell BK498.out 0).trans rfl,(blk_cell BK498.out 1).trans rfl,(blk_cell BK498.out 2).trans rfl,(blk_cell BK498.out 3).trans rfl,(blk_cell BK498.out 4).trans rfl,(blk_cell BK498.out 5).trans rfl⟩ (fun hHeld=>?_);refine with_tabW laws_FnQueue.tab9 laws_FnQueue.bits9 (fun HT_ HW_=>?_)
        generalize w50.drew = w51 at HO459 HO467 HO476 HO479 HO489 HO492 BK464 BK473 BK485 BK498 HB hHeld ⊢
        refine pure_ (i:=1) (N:=some 45) (v:=?_) (a':=?_) #[false,true,false,false,false,false,false,false,false,false,false,false,false,false,false,false,false,false,false,false,false,false,false,false,false,false,false,false] rfl rfl (any_of HT_.out (by kernel_rfl)) (fun _ _ _ h=>h) (Or.inl ⟨by rfl,?_⟩) ?_ ?_
        rotate_left
        ·intro w'
         go_simp
         with_reducible rfl
        rotate_left
        ·simp only [Act.put,List.setIfInBounds_toArray,List.set_cons_zero,List.set_cons_succ,i64_w,i32_w]
         rfl
        refine take_ (i:=0) (N:=some 44) (v:=?_) (a':=?_) #[true,true,false,false,false,false,false,false,false,false,false,false,false,false,false,false,false,false,false,false,false,false,false,false,false,false,false,false] rfl rfl (take_ofW HT_.out HW_.out (by kernel_rfl)) (fun _ _ _ h=>h) (Or.inl ⟨by rfl,?_⟩) hHeld ?_ ?_
        rotate_left
        ·rintro w' ⟨s0,s1,s2,s3,s4,s5,s6,s7,s8,s9,s10,s11,s12,s13,s14,s15,s16,s17,s18,s19,s20,s21⟩
         go_simp
         with_reducible rfl
        rotate_left
        ·simp only [Act.put,List.setIfInBounds_toArray,List.set_cons_zero,List.set_cons_succ,i64_w,i32_w]
         rfl
        refine take_ (i:=2) (N:=some 46) (v:=?_) (a':=?_) #[true,true,true,false,false,false,false,false,false,false,false,false,false,false,false,false,false,false,false,false,false,false,false,false,false,false,false,false] rfl rfl (take_ofW HT_.out HW_.out (by kernel_rfl)) (fun _ _ _ h=>h) (Or.inl ⟨by rfl,?_⟩) hHeld ?_ ?_
        rotate_left
        ·rintro w' ⟨s0,s1,s2,s3,s4,s5,s6,s7,s8,s9,s10,s11,s12,s13,s14,s15,s16,s17,s18,s19,s20,s21⟩
         go_simp
         with_reducible rfl
        rotate_left
        ·simp only [Act.put,List.setIfInBounds_toArray,List.set_cons_zero,List.set_cons_succ,i64_w,i32_w]
         rfl
        refine one_ (i:=3) (N:=some 47) #[true,true,true,true,false,false,false,false,false,false,false,false,false,false,false,false,false,false,false,false,false,false,false,false,false,false,false,false] rfl rfl (one_of HT_.out (by kernel_rfl)) (by decide) (fun K hK=>?_)
        refine goes_ Try.func14 (by kernel_rfl) rfl #[.slice Ao16 t457.length co16,.agg #[.int .i64 t460,.int .i64 t461,.int .i64 t462,.string t463]] (by rfl) rfl rfl (by (try simp only [List.map_toArray,List.map_cons,List.map_nil]);first|done|rfl|(simp only [List.length_drop,List.length_take];rfl)) ?_
        with_reducible refine (spec_QueuePut.calls kj2 _ _ t457 t460 t461 t462 t463 t499 t502 t503 t504 t505 t506 _ ?side1 ?side2 A39.out).mono ?_
        (case side1=>repeat (first|exact (Kd.R_reads' HO459.out).2.2|(with_reducible refine Kd.C_alloc ?_ _)|(with_reducible refine Kd.C_drewN ?_ _)|(with_reducible refine Kd.C_drew ?_)))
        (case side2=>exact (Kd.R_reads' HO459.out).2.1)
        rintro e w52 ⟨v500,rfl,ho0,hb⟩
        refine ⟨_,rfl,?_⟩
        have n0_:=Aside0.mk (Kd.R_elder' (by (with_reducible repeat (first|apply Kd.R_alloc|apply Kd.R_drewN|apply Kd.R_drew));exact HO459.out) (Kd.R_base ho0) hb)
        have n1_:=Aside0.mk (Kd.R_elder' (by (with_reducible repeat (first|apply Kd.R_alloc|apply Kd.R_drewN|apply Kd.R_drew));exact HO467.out) (Kd.R_base ho0) hb)
        have n2_:=Aside0.mk (Kd.R_elder' (by (with_reducible repeat (first|apply Kd.R_alloc|apply Kd.R_drewN|apply Kd.R_drew));exact HO476.out) (Kd.R_base ho0) hb)
        have n3_:=Aside0.mk (Kd.R_elder' (by (with_reducible repeat (first|apply Kd.R_alloc|apply Kd.R_drewN|apply Kd.R_drew));exact HO479.out) (Kd.R_base ho0) hb)
        have n4_:=Aside0.mk (Kd.R_elder' (by (with_reducible repeat (first|apply Kd.R_alloc|apply Kd.R_drewN|apply Kd.R_drew));exact HO489.out) (Kd.R_base ho0) hb)
        have n5_:=Aside0.mk (Kd.R_elder' (by (with_reducible repeat (first|apply Kd.R_alloc|apply Kd.R_drewN|apply Kd.R_drew));exact HO492.out) (Kd.R_base ho0) hb)
        have n6_:=Aside0.mk (Kd.R_lower (Kd.R_newB (Kd.R_new' (Kd.R_new' (Kd.R_new' (Kd.R_new' (Kd.R_new' (Kd.R_new' ho0 (Kd.R_lt (by (with_reducible repeat (first|apply Kd.R_alloc|apply Kd.R_drewN|apply Kd.R_drew));exact HO459.out))) (Kd.R_lt (by (with_reducible repeat (first|apply Kd.R_alloc|apply Kd.R_drewN|apply Kd.R_drew));exact HO467.out))) (Kd.R_lt (by (with_reducible repeat (first|apply Kd.R_alloc|apply Kd.R_drewN|apply Kd.R_drew));exact HO476.out))) (Kd.R_lt (by (with_reducible repeat (first|apply Kd.R_alloc|apply Kd.R_drewN|apply Kd.R_drew));exact HO479.out))) (Kd.R_lt (by (with_reducible repeat (first|apply Kd.R_alloc|apply Kd.R_drewN|apply Kd.R_drew));exact HO489.out))) (Kd.R_lt (by (with_reducible repeat (first|apply Kd.R_alloc|apply Kd.R_drewN|apply Kd.R_drew));exact HO492.out))) (g:=gb464) (o:=.cells #[.int .i64 t460,.int .i64 t461,.int .i64 t462,.string t463] 25 (0,0)) (by (with_reducible repeat (first|refine blk_drewN ?_ _|refine blk_drew ?_|refine blk_alloc ?_ _));exact BK464.out)) (below_size (by repeat (first|(with_reducible first|exact HB.out|apply below_alloc|apply pw_below_drewN|apply below_drew1|refine below_set ?_ GE464.out|refine below_set ?_ GE473.out|refine below_set ?_ GE485.out|refine below_set ?_ GE498.out)|exact HB.out))))
        have n7_:=Aside0.mk (blk_below (g:=gb464) (o:=.cells #[.int .i64 t460,.int .i64 t461,.int .i64 t462,.string t463] 25 (0,0)) (by (with_reducible repeat (first|refine blk_drewN ?_ _|refine blk_drew ?_|refine blk_alloc ?_ _));exact BK464.out) hb)
        have n8_:=Aside0.mk (blk_below (g:=gb473) (o:=.cells #[.slice Ao19 t465.length co19,.int .i64 t468,.int .i64 t469,.int .i64 t470,.string t471,.int .i64 t472] 29 (0,0)) (by (with_reducible repeat (first|refine blk_drewN ?_ _|refine blk_drew ?_|refine blk_alloc ?_ _));exact BK473.out) hb)
        have n9_:=Aside0.mk (blk_below (g:=gb485) (o:=.cells #[.slice Ao26 t477.length co26,.int .i64 t480,.int .i64 t481,.int .i64 t482,.string t483,.int .i64 t484] 29 (0,0)) (by (with_reducible repeat (first|refine blk_drewN ?_ _|refine blk_drew ?_|refine blk_alloc ?_ _));exact BK485.out) hb)
        have n10_:=Aside0.mk (blk_below (g:=gb498) (o:=.cells #[.slice Ao34 t490.length co34,.int .i64 t493,.int .i64 t494,.int .i64 t495,.string t496,.int .i64 t497] 29 (0,0)) (by (with_reducible repeat (first|refine blk_drewN ?_ _|refine blk_drew ?_|refine blk_alloc ?_ _));exact BK498.out) hb)
        have n11_:=Aside0.mk (below_step (by repeat (first|(with_reducible first|exact HB.out|apply below_alloc|apply pw_below_drewN|apply below_drew1|refine below_set ?_ GE464.out|refine below_set ?_ GE473.out|refine below_set ?_ GE485.out|refine below_set ?_ GE498.out)|exact HB.out)) hb)
        clear HO459
        clear HO467
        clear HO476
        clear HO479
        clear HO489
        clear HO492
        clear BK464
        clear BK473
        clear BK485
        clear BK498
        clear HB
        have HO459:=n0_
        have HO467:=n1_
        have HO476:=n2_
        have HO479:=n3_
        have HO489:=n4_
        have HO492:=n5_
        have HO501:=n6_
        have BK464:=n7_
        have BK473:=n8_
        have BK485:=n9_
        have BK498:=n10_
        have HB:=n11_
        clear n0_ n1_ n2_ n3_ n4_ n5_ n6_ n7_ n8_ n9_ n10_ n11_
        (try clear hb)
        (try clear hb2)
        (try clear hk)
        (try clear hi)
        (try clear ho0)
        obtain ⟨Ao53,co53,eo53⟩:=Kd.R_slice HO501.out
        (first|subst eo53|(injection eo53 with f1_ f2_ f3_;have f4_:=f1_.symm;have f5_:=f3_.symm;clear f1_ f2_ f3_;subst f4_;subst f5_))
        refine hK.out _ _ ⟨(blk_cell BK473.out 0).trans rfl,(blk_cell BK473.out 1).trans rfl,(blk_cell BK473.out 2).trans rfl,(blk_cell BK473.out 3).trans rfl,(blk_cell BK473.out 4).trans rfl,(blk_cell BK473.out 5).trans rfl,(blk_cell BK464.out 0).trans rfl,(blk_cell BK464.out 1).trans rfl,(blk_cell BK464.out 2).trans rfl,(blk_cell BK464.out 3).trans rfl,(blk_cell BK485.out 0).trans rfl,(blk_cell BK485.out 1).trans rfl,(blk_cell BK485.out 2).trans rfl,(blk_cell BK485.out 3).trans rfl,(blk_cell BK485.out 4).trans rfl,(blk_cell BK485.out 5).trans rfl,(blk_cell BK498.out 0).trans rfl,(blk_cell BK498.out 1).trans rfl,(blk_cell BK498.out 2).trans rfl,(blk_cell BK498.out 3).trans rfl,(blk_cell BK498.out 4).trans rfl,(blk_cell BK498.out 5).trans rfl⟩ (fun hHeld=>?_)
        clear hK K
        refine norm_ (a':=?_) ?_ ?_
        rotate_left
        ·show Act.put _ (some 47) _ = _
         simp only [Act.put,List.setIfInBounds_toArray,List.set_cons_zero,List.set_cons_succ,i64_w,i32_w]
         rfl
        refine one_ (i:=4) (N:=some 48) #[true,true,true,true,true,false,false,false,false,false,false,false,false,false,false,false,false,false,false,false,false,false,false,false,false,false,false,false] rfl rfl (one_of HT_.out (by kernel_rfl)) (by decide) (fun K hK=>?_)
        refine goes_ Try.func13 (by kernel_rfl) rfl #[.agg #[.slice Ao19 t465.length co19,.int .i64 t468,.int .i64 t469,.int .i64 t470,.string t471,.int .i64 t472],.agg #[.slice Ao53 t499.length co53,.int .i64 t502,.int .i64 t503,.int .i64 t504,.string t505,.int .i64 t506]] (by rfl) rfl rfl (by (try simp only [List.map_toArray,List.map_cons,List.map_nil]);first|done|rfl|(simp only [List.length_drop,List.length_take];rfl)) ?_
        with_reducible refine (laws_lwQueues.calls kj2 _ _ t465 t468 t469 t470 t471 t472 _ _ t499 t502 t503 t504 t505 t506 true _ ?side1 ?side2 ?side3 ?side4 A40.out).mono ?_
        (case side1=>repeat (first|exact (Kd.R_reads' HO467.out).2.2|(with_reducible refine Kd.C_alloc ?_ _)|(with_reducible refine Kd.C_drewN ?_ _)|(with_reducible refine Kd.C_drew ?_)))
        (case side2=>exact (Kd.R_reads' HO467.out).2.1)
        (case side3=>repeat (first|exact (Kd.R_reads' HO501.out).2.2|(with_reducible refine Kd.C_alloc ?_ _)|(with_reducible refine Kd.C_drewN ?_ _)|(with_reducible refine Kd.C_drew ?_)))
        (case side4=>exact (Kd.R_reads' HO501.out).2.1)
        rintro e w54 ⟨rfl,hb⟩
        refine ⟨_,rfl,?_⟩
        have n0_:=Aside0.mk (Kd.R_below (by (with_reducible repeat (first|apply Kd.R_alloc|apply Kd.R_drewN|apply Kd.R_drew));exact HO459.out) hb)
        have n1_:=Aside0.mk (Kd.R_below (by (with_reducible repeat (first|apply Kd.R_alloc|apply Kd.R_drewN|apply Kd.R_drew));exact HO467.out) hb)
        have n2_:=Aside0.mk (Kd.R_below (by (with_reducible repeat (first|apply Kd.R_alloc|apply Kd.R_drewN|apply Kd.R_drew));exact HO476.out) hb)
        have n3_:=Aside0.mk (Kd.R_below (by (with_reducible repeat (first|apply Kd.R_alloc|apply Kd.R_drewN|apply Kd.R_drew));exact HO479.out) hb)
        have n4_:=Aside0.mk (Kd.R_below (by (with_reducible repeat (first|apply Kd.R_alloc|apply Kd.R_drewN|apply Kd.R_drew));exact HO489.out) hb)
        have n5_:=Aside0.mk (Kd.R_below (by (with_reducible repeat (first|apply Kd.R_alloc|apply Kd.R_drewN|apply Kd.R_drew));exact HO492.out) hb)
        have n6_:=Aside0.mk (Kd.R_below (by (with_reducible repeat (first|apply Kd.R_alloc|apply Kd.R_drewN|apply Kd.R_drew));exact HO501.out) hb)
        have n7_:=Aside0.mk (blk_below (g:=gb464) (o:=.cells #[.int .i64 t460,.int .i64 t461,.int .i64 t462,.string t463] 25 (0,0)) (by (with_reducible repeat (first|refine blk_drewN ?_ _|refine blk_drew ?_|refine blk_alloc ?_ _));exact BK464.out) hb)
        have n8_:=Aside0.mk (blk_below (g:=gb473) (o:=.cells #[.slice Ao19 t465.length co19,.int .i64 t468,.int .i64 t469,.int .i64 t470,.string t471,.int .i64 t472] 29 (0,0)) (by (with_reducible repeat (first|refine blk_drewN ?_ _|refine blk_drew ?_|refine blk_alloc ?_ _));exact BK473.out) hb)
        have n9_:=Aside0.mk (blk_below (g:=gb485) (o:=.cells #[.slice Ao26 t477.length co26,.int .i64 t480,.int .i64 t481,.int .i64 t482,.string t483,.int .i64 t484] 29 (0,0)) (by (with_reducible repeat (first|refine blk_drewN ?_ _|refine blk_drew ?_|refine blk_alloc ?_ _));exact BK485.out) hb)
        have n10_:=Aside0.mk (blk_below (g:=gb498) (o:=.cells #[.slice Ao34 t490.length co34,.int .i64 t493,.int .i64 t494,.int .i64 t495,.string t496,.int .i64 t497] 29 (0,0)) (by (with_reducible repeat (first|refine blk_drewN ?_ _|refine blk_drew ?_|refine blk_alloc ?_ _));exact BK498.out) hb)
        have n11_:=Aside0.mk (below_step (by repeat (first|(with_reducible first|exact HB.out|apply below_alloc|apply pw_below_drewN|apply below_drew1|refine below_set ?_ GE464.out|refine below_set ?_ GE473.out|refine below_set ?_ GE485.out|refine below_set ?_ GE498.out)|exact HB.out)) hb)
        clear HO459
        clear HO467
        clear HO476
        clear HO479
        clear HO489
        clear HO492
        clear HO501
        clear BK464
        clear BK473
        clear BK485
        clear BK498
        clear HB
        have HO459:=n0_
        have HO467:=n1_
        have HO476:=n2_
        have HO479:=n3_
        have HO489:=n4_
        have HO492:=n5_
        have HO501:=n6_
        have BK464:=n7_
        have BK473:=n8_
        have BK485:=n9_
        have BK498:=n10_
        have HB:=n11_
        clear n0_ n1_ n2_ n3_ n4_ n5_ n6_ n7_ n8_ n9_ n10_ n11_
        (try clear hb)
        (try clear hb2)
        (try clear hk)
        (try clear hi)
        refine hK.out _ _ ⟨(blk_cell BK473.out 0).trans rfl,(blk_cell BK473.out 1).trans rfl,(blk_cell BK473.out 2).trans rfl,(blk_cell BK473.out 3).trans rfl,(blk_cell BK473.out 4).trans rfl,(blk_cell BK473.out 5).trans rfl,(blk_cell BK464.out 0).trans rfl,(blk_cell BK464.out 1).trans rfl,(blk_cell BK464.out 2).trans rfl,(blk_cell BK464.out 3).trans rfl,(blk_cell BK485.out 0).trans rfl,(blk_cell BK485.out 1).trans rfl,(blk_cell BK485.out 2).trans rfl,(blk_cell BK485.out 3).trans rfl,(blk_cell BK485.out 4).trans rfl,(blk_cell BK485.out 5).trans rfl,(blk_cell BK498.out 0).trans rfl,(blk_cell BK498.out 1).trans rfl,(blk_cell BK498.out 2).trans rfl,(blk_cell BK498.out 3).trans rfl,(blk_cell BK498.out 4).trans rfl,(blk_cell BK498.out 5).trans rfl⟩ (fun hHeld=>?_)
        clear hK K
        refine norm_ (a':=?_) ?_ ?_
        rotate_left
        ·show Act.put _ (some 48) _ = _
         simp only [Act.put,List.setIfInBounds_toArray,List.set_cons_zero,List.set_cons_succ,i64_w,i32_w]
         rfl
        refine pure_ (i:=5) (N:=some 49) (v:=?_) (a':=?_) #[true,true,true,true,true,true,false,false,false,false,false,false,false,false,false,false,false,false,false,false,false,false,false,false,false,false,false,false] rfl rfl (any_of HT_.out (by kernel_rfl)) (fun _ _ _ h=>h) (Or.inl ⟨by rfl,?_⟩) ?_ ?_
        rotate_left
        ·intro w'
         go_simp
         with_reducible rfl
        rotate_left
        ·simp only [Act.put,List.setIfInBounds_toArray,List.set_cons_zero,List.set_cons_succ,i64_w,i32_w]
         rfl
        refine pure_ (i:=6) (N:=some 50) (v:=?_) (a':=?_) #[true,true,true,true,true,true,true,false,false,false,false,false,false,false,false,false,false,false,false,false,false,false,false,false,false,false,false,false] rfl rfl (any_of HT_.out (by kernel_rfl)) (fun _ _ _ h=>h) (Or.inl ⟨by rfl,?_⟩) ?_ ?_
        rotate_left
        ·intro w'
         go_simp
         with_reducible rfl
        rotate_left
        ·simp only [Act.put,List.setIfInBounds_toArray,List.set_cons_zero,List.set_cons_succ,i64_w,i32_w]
         rfl
        refine pure_ (i:=8) (N:=some 52) (v:=?_) (a':=?_) #[true,true,true,true,true,true,true,false,true,false,false,false,false,false,false,false,false,false,false,false,false,false,false,false,false,false,false,false] rfl rfl (any_of HT_.out (by kernel_rfl)) (fun _ _ _ h=>h) (Or.inl ⟨by rfl,?_⟩) ?_ ?_
        rotate_left
        ·intro w'
         go_simp
         with_reducible rfl
        rotate_left
        ·simp only [Act.put,List.setIfInBounds_toArray,List.set_cons_zero,List.set_cons_succ,i64_w,i32_w]
         rfl
        refine take_ (i:=7) (N:=some 51) (v:=?_) (a':=?_) #[true,true,true,true,true,true,true,true,true,false,false,false,false,false,false,false,false,false,false,false,false,false,false,false,false,false,false,false] rfl rfl (take_ofW HT_.out HW_.out (by kernel_rfl)) (fun _ _ _ h=>h) (Or.inl ⟨by rfl,?_⟩) hHeld ?_ ?_
        rotate_left
        ·rintro w' ⟨s0,s1,s2,s3,s4,s5,s6,s7,s8,s9,s10,s11,s12,s13,s14,s15,s16,s17,s18,s19,s20,s21⟩
         go_simp
         with_reducible rfl
        rotate_left
        ·simp only [Act.put,List.setIfInBounds_toArray,List.set_cons_zero,List.set_cons_succ,i64_w,i32_w]
         rfl
        refine one_ (i:=9) (N:=some 53) #[true,true,true,true,true,true,true,true,true,true,false,false,false,false,false,false,false,false,false,false,false,false,false,false,false,false,false,false] rfl rfl (one_of HT_.out (by kernel_rfl)) (by decide) (fun K hK=>?_)
        refine goes_ Try.func15 (by kernel_rfl) rfl #[.slice Ao23 t474.length co23] (by rfl) rfl rfl (by (try simp only [List.map_toArray,List.map_cons,List.map_nil]);first|done|rfl|(simp only [List.length_drop,List.length_take];rfl)) ?_
        with_reducible refine (spec_QueueTake.calls kj2 _ _ t474 t508 t511 t512 t513 t514 t515 _ ?side1 ?side2 A42.out).mono ?_
        (case side1=>repeat (first|exact (Kd.R_reads' HO476.out).2.2|(with_reducible refine Kd.C_alloc ?_ _)|(with_reducible refine Kd.C_drewN ?_ _)|(with_reducible refine Kd.C_drew ?_)))
        (case side2=>exact (Kd.R_reads' HO476.out).2.1)
        rintro e w55 ⟨v509,rfl,ho0,hb⟩
        refine ⟨_,rfl,?_⟩
        have n0_:=Aside0.mk (Kd.R_elder' (by (with_reducible repeat (first|apply Kd.R_alloc|apply Kd.R_drewN|apply Kd.R_drew));exact HO459.out) (Kd.R_base ho0) hb)
        have n1_:=Aside0.mk (Kd.R_elder' (by (with_reducible repeat (first|apply Kd.R_alloc|apply Kd.R_drewN|apply Kd.R_drew));exact HO467.out) (Kd.R_base ho0) hb)
        have n2_:=Aside0.mk (Kd.R_elder' (by (with_reducible repeat (first|apply Kd.R_alloc|apply Kd.R_drewN|apply Kd.R_drew));exact HO476.out) (Kd.R_base ho0) hb)
        have n3_:=Aside0.mk (Kd.R_elder' (by (with_reducible repeat (first|apply Kd.R_alloc|apply Kd.R_drewN|apply Kd.R_drew));exact HO479.out) (Kd.R_base ho0) hb)
        have n4_:=Aside0.mk (Kd.R_elder' (by (with_reducible repeat (first|apply Kd.R_alloc|apply Kd.R_drewN|apply Kd.R_drew));exact HO489.out) (Kd.R_base ho0) hb)
        have n5_:=Aside0.mk (Kd.R_elder' (by (with_reducible repeat (first|apply Kd.R_alloc|apply Kd.R_drewN|apply Kd.R_drew));exact HO492.out) (Kd.R_base ho0) hb)
        have n6_:=Aside0.mk (Kd.R_elder' (by (with_reducible repeat (first|apply Kd.R_alloc|apply Kd.R_drewN|apply Kd.R_drew));exact HO501.out) (Kd.R_base ho0) hb)
        have n7_:=Aside0.mk (Kd.R_lower (Kd.R_newB (Kd.R_new' (Kd.R_new' (Kd.R_new' (Kd.R_new' (Kd.R_new' (Kd.R_new' (Kd.R_new' ho0 (Kd.R_lt (by (with_reducible repeat (first|apply Kd.R_alloc|apply Kd.R_drewN|apply Kd.R_drew));exact HO459.out))) (Kd.R_lt (by (with_reducible repeat (first|apply Kd.R_alloc|apply Kd.R_drewN|apply Kd.R_drew));exact HO467.out))) (Kd.R_lt (by (with_reducible repeat (first|apply Kd.R_alloc|apply Kd.R_drewN|apply Kd.R_drew));exact HO476.out))) (Kd.R_lt (by (with_reducible repeat (first|apply Kd.R_alloc|apply Kd.R_drewN|apply Kd.R_drew));exact HO479.out))) (Kd.R_lt (by (with_reducible repeat (first|apply Kd.R_alloc|apply Kd.R_drewN|apply Kd.R_drew));exact HO489.out))) (Kd.R_lt (by (with_reducible repeat (first|apply Kd.R_alloc|apply Kd.R_drewN|apply Kd.R_drew));exact HO492.out))) (Kd.R_lt (by (with_reducible repeat (first|apply Kd.R_alloc|apply Kd.R_drewN|apply Kd.R_drew));exact HO501.out))) (g:=gb464) (o:=.cells #[.int .i64 t460,.int .i64 t461,.int .i64 t462,.string t463] 25 (0,0)) (by (with_reducible repeat (first|refine blk_drewN ?_ _|refine blk_drew ?_|refine blk_alloc ?_ _));exact BK464.out)) (below_size (by repeat (first|(with_reducible first|exact HB.out|apply below_alloc|apply pw_below_drewN|apply below_drew1|refine below_set ?_ GE464.out|refine below_set ?_ GE473.out|refine below_set ?_ GE485.out|refine below_set ?_ GE498.out)|exact HB.out))))
        have n8_:=Aside0.mk (blk_below (g:=gb464) (o:=.cells #[.int .i64 t460,.int .i64 t461,.int .i64 t462,.string t463] 25 (0,0)) (by (with_reducible repeat (first|refine blk_drewN ?_ _|refine blk_drew ?_|refine blk_alloc ?_ _));exact BK464.out) hb)
        have n9_:=Aside0.mk (blk_below (g:=gb473) (o:=.cells #[.slice Ao19 t465.length co19,.int .i64 t468,.int .i64 t469,.int .i64 t470,.string t471,.int .i64 t472] 29 (0,0)) (by (with_reducible repeat (first|refine blk_drewN ?_ _|refine blk_drew ?_|refine blk_alloc ?_ _));exact BK473.out) hb)
        have n10_:=Aside0.mk (blk_below (g:=gb485) (o:=.cells #[.slice Ao26 t477.length co26,.int .i64 t480,.int .i64 t481,.int .i64 t482,.string t483,.int .i64 t484] 29 (0,0)) (by (with_reducible repeat (first|refine blk_drewN ?_ _|refine blk_drew ?_|refine blk_alloc ?_ _));exact BK485.out) hb)
        have n11_:=Aside0.mk (blk_below (g:=gb498) (o:=.cells #[.slice Ao34 t490.length co34,.int .i64 t493,.int .i64 t494,.int .i64 t495,.string t496,.int .i64 t497] 29 (0,0)) (by (with_reducible repeat (first|refine blk_drewN ?_ _|refine blk_drew ?_|refine blk_alloc ?_ _));exact BK498.out) hb)
        have n12_:=Aside0.mk (below_step (by repeat (first|(with_reducible first|exact HB.out|apply below_alloc|apply pw_below_drewN|apply below_drew1|refine below_set ?_ GE464.out|refine below_set ?_ GE473.out|refine below_set ?_ GE485.out|refine below_set ?_ GE498.out)|exact HB.out)) hb)
        clear HO459
        clear HO467
        clear HO476
        clear HO479
        clear HO489
        clear HO492
        clear HO501
        clear BK464
        clear BK473
        clear BK485
        clear BK498
        clear HB
        have HO459:=n0_
        have HO467:=n1_
        have HO476:=n2_
        have HO479:=n3_
        have HO489:=n4_
        have HO492:=n5_
        have HO501:=n6_
        have HO510:=n7_
        have BK464:=n8_
        have BK473:=n9_
        have BK485:=n10_
        have BK498:=n11_
        have HB:=n12_
        clear n0_ n1_ n2_ n3_ n4_ n5_ n6_ n7_ n8_ n9_ n10_ n11_ n12_
        (try clear hb)
        (try clear hb2)
        (try clear hk)
        (try clear hi)
        (try clear ho0)
        obtain ⟨Ao56,co56,eo56⟩:=Kd.R_slice HO510.out
        (first|subst eo56|(injection eo56 with f1_ f2_ f3_;have f4_:=f1_.symm;have f5_:=f3_.symm;clear f1_ f2_ f3_;subst f4_;subst f5_))
        refine hK.out _ _ ⟨(blk_cell BK473.out 0).trans rfl,(blk_cell BK473.out 1).trans rfl,(blk_cell BK473.out 2).trans rfl,(blk_cell BK473.out 3).trans rfl,(blk_cell BK473.out 4).trans rfl,(blk_cell BK473.out 5).trans rfl,(blk_cell BK464.out 0).trans rfl,(blk_cell BK464.out 1).trans rfl,(blk_cell BK464.out 2).trans rfl,(blk_cell BK464.out 3).trans rfl,(blk_cell BK485.out 0).trans rfl,(blk_cell BK485.out 1).trans rfl,(blk_cell BK485.out 2).trans rfl,(blk_cell BK485.out 3).trans rfl,(blk_cell BK485.out 4).trans rfl,(blk_cell BK485.out 5).trans rfl,(blk_cell BK498.out 0).trans rfl,(blk_cell BK498.out 1).trans rfl,(blk_cell BK498.out 2).trans rfl,(blk_cell BK498.out 3).trans rfl,(blk_cell BK498.out 4).trans rfl,(blk_cell BK498.out 5).trans rfl⟩ (fun hHeld=>?_)
        clear hK K
        refine norm_ (a':=?_) ?_ ?_
        rotate_left
        ·show Act.put _ (some 53) _ = _
         simp only [Act.put,List.setIfInBounds_toArray,List.set_cons_zero,List.set_cons_succ,i64_w,i32_w]
         rfl
        refine one_ (i:=10) (N:=some 54) #[true,true,true,true,true,true,true,true,true,true,true,false,false,false,false,false,false,false,false,false,false,false,false,false,false,false,false,false] rfl rfl (one_of HT_.out (by kernel_rfl)) (by decide) (fun K hK=>?_)
        refine goes_ Try.func13 (by kernel_rfl) rfl #[.agg #[.slice Ao26 t477.length co26,.int .i64 t480,.int .i64 t481,.int .i64 t482,.string t483,.int .i64 t484],.agg #[.slice Ao56 t508.length co56,.int .i64 t511,.int .i64 t512,.int .i64 t513,.string t514,.int .i64 t515]] (by rfl) rfl rfl (by (try simp only [List.map_toArray,List.map_cons,List.map_nil]);first|done|rfl|(simp only [List.length_drop,List.length_take];rfl)) ?_
        with_reducible refine (laws_lwQueues.calls kj2 _ _ t477 t480 t481 t482 t483 t484 _ _ t508 t511 t512 t513 t514 t515 true _ ?side1 ?side2 ?side3 ?side4 A43.out).mono ?_
        (case side1=>repeat (first|exact (Kd.R_reads' HO479.out).2.2|(with_reducible refine Kd.C_alloc ?_ _)|(with_reducible refine Kd.C_drewN ?_ _)|(with_reducible refine Kd.C_drew ?_)))
        (case side2=>exact (Kd.R_reads' HO479.out).2.1)
        (case side3=>repeat (first|exact (Kd.R_reads' HO510.out).2.2|(with_reducible refine Kd.C_alloc ?_ _)|(with_reducible refine Kd.C_drewN ?_ _)|(with_reducible refine Kd.C_drew ?_)))
        (case side4=>exact (Kd.R_reads' HO510.out).2.1)
        rintro e w57 ⟨rfl,hb⟩
        refine ⟨_,rfl,?_⟩
        have n0_:=Aside0.mk (Kd.R_below (by (with_reducible repeat (first|apply Kd.R_alloc|apply Kd.R_drewN|apply Kd.R_drew));exact HO459.out) hb)
        have n1_:=Aside0.mk (Kd.R_below (by (with_reducible repeat (first|apply Kd.R_alloc|apply Kd.R_drewN|apply Kd.R_drew));exact HO467.out) hb)
        have n2_:=Aside0.mk (Kd.R_below (by (with_reducible repeat (first|apply Kd.R_alloc|apply Kd.R_drewN|apply Kd.R_drew));exact HO476.out) hb)
        have n3_:=Aside0.mk (Kd.R_below (by (with_reducible repeat (first|apply Kd.R_alloc|apply Kd.R_drewN|apply Kd.R_drew));exact HO479.out) hb)
        have n4_:=Aside0.mk (Kd.R_below (by (with_reducible repeat (first|apply Kd.R_alloc|apply Kd.R_drewN|apply Kd.R_drew));exact HO489.out) hb)
        have n5_:=Aside0.mk (Kd.R_below (by (with_reducible repeat (first|apply Kd.R_alloc|apply Kd.R_drewN|apply Kd.R_drew));exact HO492.out) hb)
        have n6_:=Aside0.mk (Kd.R_below (by (with_reducible repeat (first|apply Kd.R_alloc|apply Kd.R_drewN|apply Kd.R_drew));exact HO501.out) hb)
        have n7_:=Aside0.mk (Kd.R_below (by (with_reducible repeat (first|apply Kd.R_alloc|apply Kd.R_drewN|apply Kd.R_drew));exact HO510.out) hb)
        have n8_:=Aside0.mk (blk_below (g:=gb464) (o:=.cells #[.int .i64 t460,.int .i64 t461,.int .i64 t462,.string t463] 25 (0,0)) (by (with_reducible repeat (first|refine blk_drewN ?_ _|refine blk_drew ?_|refine blk_alloc ?_ _));exact BK464.out) hb)
        have n9_:=Aside0.mk (blk_below (g:=gb473) (o:=.cells #[.slice Ao19 t465.length co19,.int .i64 t468,.int .i64 t469,.int .i64 t470,.string t471,.int .i64 t472] 29 (0,0)) (by (with_reducible repeat (first|refine blk_drewN ?_ _|refine blk_drew ?_|refine blk_alloc ?_ _));exact BK473.out) hb)
        have n10_:=Aside0.mk (blk_below (g:=gb485) (o:=.cells #[.slice Ao26 t477.length co26,.int .i64 t480,.int .i64 t481,.int .i64 t482,.string t483,.int .i64 t484] 29 (0,0)) (by (with_reducible repeat (first|refine blk_drewN ?_ _|refine blk_drew ?_|refine blk_alloc ?_ _));exact BK485.out) hb)
        have n11_:=Aside0.mk (blk_below (g:=gb498) (o:=.cells #[.slice Ao34 t490.length co34,.int .i64 t493,.int .i64 t494,.int .i64 t495,.string t496,.int .i64 t497] 29 (0,0)) (by (with_reducible repeat (first|refine blk_drewN ?_ _|refine blk_drew ?_|refine blk_alloc ?_ _));exact BK498.out) hb)
        have n12_:=Aside0.mk (below_step (by repeat (first|(with_reducible first|exact HB.out|apply below_alloc|apply pw_below_drewN|apply below_drew1|refine below_set ?_ GE464.out|refine below_set ?_ GE473.out|refine below_set ?_ GE485.out|refine below_set ?_ GE498.out)|exact HB.out)) hb)
        clear HO459
        clear HO467
        clear HO476
        clear HO479
        clear HO489
        clear HO492
        clear HO501
        clear HO510
        clear BK464
        clear BK473
        clear BK485
        clear BK498
        clear HB
        have HO459:=n0_
        have HO467:=n1_
        have HO476:=n2_
        have HO479:=n3_
        have HO489:=n4_
        have HO492:=n5_
        have HO501:=n6_
        have HO510:=n7_
        have BK464:=n8_
        have BK473:=n9_
        have BK485:=n10_
        have BK498:=n11_
        have HB:=n12_
        clear n0_ n1_ n2_ n3_ n4_ n5_ n6_ n7_ n8_ n9_ n10_ n11_ n12_
        (try clear hb)
        (try clear hb2)
        (try clear hk)
        (try clear hi)
        refine hK.out _ _ ⟨(blk_cell BK473.out 0).trans rfl,(blk_cell BK473.out 1).trans rfl,(blk_cell BK473.out 2).trans rfl,(blk_cell BK473.out 3).trans rfl,(blk_cell BK473.out 4).trans rfl,(blk_cell BK473.out 5).trans rfl,(blk_cell BK464.out 0).trans rfl,(blk_cell BK464.out 1).trans rfl,(blk_cell BK464.out 2).trans rfl,(blk_cell BK464.out 3).trans rfl,(blk_cell BK485.out 0).trans rfl,(blk_cell BK485.out 1).trans rfl,(blk_cell BK485.out 2).trans rfl,(blk_cell BK485.out 3).trans rfl,(blk_cell BK485.out 4).trans rfl,(blk_cell BK485.out 5).trans rfl,(blk_cell BK498.out 0).trans rfl,(blk_cell BK498.out 1).trans rfl,(blk_cell BK498.out 2).trans rfl,(blk_cell BK498.out 3).trans rfl,(blk_cell BK498.out 4).trans rfl,(blk_cell BK498.out 5).trans rfl⟩ (fun hHeld=>?_)
        clear hK K
        refine norm_ (a':=?_) ?_ ?_
        rotate_left
        ·show Act.put _ (some 54) _ = _
         simp only [Act.put,List.setIfInBounds_toArray,List.set_cons_zero,List.set_cons_succ,i64_w,i32_w]
         rfl
        refine pure_ (i:=11) (N:=some 55) (v:=?_) (a':=?_) #[true,true,true,true,true,true,true,true,true,true,true,true,false,false,false,false,false,false,false,false,false,false,false,false,false,false,false,false] rfl rfl (any_of HT_.out (by kernel_rfl)) (fun _ _ _ h=>h) (Or.inl ⟨by rfl,?_⟩) ?_ ?_
        rotate_left
        ·intro w'
         go_simp
         with_reducible rfl
        rotate_left
        ·simp only [Act.put,List.setIfInBounds_toArray,List.set_cons_zero,List.set_cons_succ,i64_w,i32_w]
         rfl
        refine pure_ (i:=12) (N:=some 56) (v:=?_) (a':=?_) #[true,true,true,true,true,true,true,true,true,true,true,true,true,false,false,false,false,false,false,false,false,false,false,false,false,false,false,false] rfl rfl (any_of HT_.out (by kernel_rfl)) (fun _ _ _ h=>h) (Or.inl ⟨by rfl,?_⟩) ?_ ?_
        rotate_left
        ·intro w'
         go_simp
         with_reducible rfl
        rotate_left
        ·simp only [Act.put,List.setIfInBounds_toArray,List.set_cons_zero,List.set_cons_succ,i64_w,i32_w]
         rfl
        refine pure_ (i:=13) (N:=some 57) (v:=?_) (a':=?_) #[true,true,true,true,true,true,true,true,true,true,true,true,true,true,false,false,false,false,false,false,false,false,false,false,false,false,false,false] rfl rfl (any_of HT_.out (by kernel_rfl)) (fun _ _ _ h=>h) (Or.inl ⟨by rfl,?_⟩) ?_ ?_
        rotate_left
        ·intro w'
         go_simp
         with_reducible rfl
        rotate_left
        ·simp only [Act.put,List.setIfInBounds_toArray,List.set_cons_zero,List.set_cons_succ,i64_w,i32_w]
         rfl
        refine pure_ (i:=15) (N:=some 59) (v:=?_) (a':=?_) #[true,true,true,true,true,true,true,true,true,true,true,true,true,true,false,true,false,false,false,false,false,false,false,false,false,false,false,false] rfl rfl (any_of HT_.out (by kernel_rfl)) (fun _ _ _ h=>h) (Or.inl ⟨by rfl,?_⟩) ?_ ?_
        rotate_left
        ·intro w'
         go_simp
         with_reducible rfl
        rotate_left
        ·simp only [Act.put,List.setIfInBounds_toArray,List.set_cons_zero,List.set_cons_succ,i64_w,i32_w]
         rfl
        refine pure_ (i:=16) (N:=some 60) (v:=?_) (a':=?_) #[true,true,true,true,true,true,true,true,true,true,true,true,true,true,false,true,true,false,false,false,false,false,false,false,false,false,false,false] rfl rfl (any_of HT_.out (by kernel_rfl)) (fun _ _ _ h=>h) (Or.inl ⟨by rfl,?_⟩) ?_ ?_
        rotate_left
        ·intro w'
         go_simp
         with_reducible rfl
        rotate_left
        ·simp only [Act.put,List.setIfInBounds_toArray,List.set_cons_zero,List.set_cons_succ,i64_w,i32_w]
         rfl
        refine take_ (i:=14) (N:=some 58) (v:=?_) (a':=?_) #[true,true,true,true,true,true,true,true,true,true,true,true,true,true,true,true,true,false,false,false,false,false,false,false,false,false,false,false] rfl rfl (take_ofW HT_.out HW_.out (by kernel_rfl)) (fun _ _ _ h=>h) (Or.inl ⟨by rfl,?_⟩) hHeld ?_ ?_
        rotate_left
        ·rintro w' ⟨s0,s1,s2,s3,s4,s5,s6,s7,s8,s9,s10,s11,s12,s13,s14,s15,s16,s17,s18,s19,s20,s21⟩
         go_simp
         with_reducible rfl
        rotate_left
        ·simp only [Act.put,List.setIfInBounds_toArray,List.set_cons_zero,List.set_cons_succ,i64_w,i32_w]
         rfl
        refine one_ (i:=17) (N:=some 61) #[true,true,true,true,true,true,true,true,true,true,true,true,true,true,true,true,true,true,false,false,false,false,false,false,false,false,false,false] rfl rfl (one_of HT_.out (by kernel_rfl)) (by decide) (fun K hK=>?_)
        refine goes_ Try.func16 (by kernel_rfl) rfl #[.slice Ao31 t486.length co31,.int .i64 t487] (by rfl) rfl rfl (by (try simp only [List.map_toArray,List.map_cons,List.map_nil]);first|done|rfl|(simp only [List.length_drop,List.length_take];rfl)) ?_
        with_reducible refine (spec_QueueDrop.calls kj2 _ _ t486 t487 t517 t520 t521 t522 t523 t524 _ ?side1 ?side2 A45.out).mono ?_
        (case side1=>repeat (first|exact (Kd.R_reads' HO489.out).2.2|(with_reducible refine Kd.C_alloc ?_ _)|(with_reducible refine Kd.C_drewN ?_ _)|(with_reducible refine Kd.C_drew ?_)))
        (case side2=>exact (Kd.R_reads' HO489.out).2.1)
        rintro e w58 ⟨v518,rfl,ho0,hb⟩
        refine ⟨_,rfl,?_⟩
        have n0_:=Aside0.mk (Kd.R_elder' (by (with_reducible repeat (first|apply Kd.R_alloc|apply Kd.R_drewN|apply Kd.R_drew));exact HO459.out) (Kd.R_base ho0) hb)
        have n1_:=Aside0.mk (Kd.R_elder' (by (with_reducible repeat (first|apply Kd.R_alloc|apply Kd.R_drewN|apply Kd.R_drew));exact HO467.out) (Kd.R_base ho0) hb)
        have n2_:=Aside0.mk (Kd.R_elder' (by (with_reducible repeat (first|apply Kd.R_alloc|apply Kd.R_drewN|apply Kd.R_drew));exact HO476.out) (Kd.R_base ho0) hb)
        have n3_:=Aside0.mk (Kd.R_elder' (by (with_reducible repeat (first|apply Kd.R_alloc|apply Kd.R_drewN|apply Kd.R_drew));exact HO479.out) (Kd.R_base ho0) hb)
        have n4_:=Aside0.mk (Kd.R_elder' (by (with_reducible repeat (first|apply Kd.R_alloc|apply Kd.R_drewN|apply Kd.R_drew));exact HO489.out) (Kd.R_base ho0) hb)
        have n5_:=Aside0.mk (Kd.R_elder' (by (with_reducible repeat (first|apply Kd.R_alloc|apply Kd.R_drewN|apply Kd.R_drew));exact HO492.out) (Kd.R_base ho0) hb)
        have n6_:=Aside0.mk (Kd.R_elder' (by (with_reducible repeat (first|apply Kd.R_alloc|apply Kd.R_drewN|apply Kd.R_drew));exact HO501.out) (Kd.R_base ho0) hb)
        have n7_:=Aside0.mk (Kd.R_elder' (by (with_reducible repeat (first|apply Kd.R_alloc|apply Kd.R_drewN|apply Kd.R_drew));exact HO510.out) (Kd.R_base ho0) hb)
        have n8_:=Aside0.mk (Kd.R_lower (Kd.R_newB (Kd.R_new' (Kd.R_new' (Kd.R_new' (Kd.R_new' (Kd.R_new' (Kd.R_new' (Kd.R_new' (Kd.R_new' ho0 (Kd.R_lt (by (with_reducible repeat (first|apply Kd.R_alloc|apply Kd.R_drewN|apply Kd.R_drew));exact HO459.out))) (Kd.R_lt (by (with_reducible repeat (first|apply Kd.R_alloc|apply Kd.R_drewN|apply Kd.R_drew));exact HO467.out))) (Kd.R_lt (by (with_reducible repeat (first|apply Kd.R_alloc|apply Kd.R_drewN|apply Kd.R_drew));exact HO476.out))) (Kd.R_lt (by (with_reducible repeat (first|apply Kd.R_alloc|apply Kd.R_drewN|apply Kd.R_drew));exact HO479.out))) (Kd.R_lt (by (with_reducible repeat (first|apply Kd.R_alloc|apply Kd.R_drewN|apply Kd.R_drew));exact HO489.out))) (Kd.R_lt (by (with_reducible repeat (first|apply Kd.R_alloc|apply Kd.R_drewN|apply Kd.R_drew));exact HO492.out))) (Kd.R_lt (by (with_reducible repeat (first|apply Kd.R_alloc|apply Kd.R_drewN|apply Kd.R_drew));exact HO501.out))) (Kd.R_lt (by (with_reducible repeat (first|apply Kd.R_alloc|apply Kd.R_drewN|apply Kd.R_drew));exact HO510.out))) (g:=gb464) (o:=.cells #[.int .i64 t460,.int .i64 t461,.int .i64 t462,.string t463] 25 (0,0)) (by (with_reducible repeat (first|refine blk_drewN ?_ _|refine blk_drew ?_|refine blk_alloc ?_ _));exact BK464.out)) (below_size (by repeat (first|(with_reducible first|exact HB.out|apply below_alloc|apply pw_below_drewN|apply below_drew1|refine below_set ?_ GE464.out|refine below_set ?_ GE473.out|refine below_set ?_ GE485.out|refine below_set ?_ GE498.out)|exact HB.out))))
        have n9_:=Aside0.mk (blk_below (g:=gb464) (o:=.cells #[.int .i64 t460,.int .i64 t461,.int .i64 t462,.string t463] 25 (0,0)) (by (with_reducible repeat (first|refine blk_drewN ?_ _|refine blk_drew ?_|refine blk_alloc ?_ _));exact BK464.out) hb)
        have n10_:=Aside0.mk (blk_below (g:=gb473) (o:=.cells #[.slice Ao19 t465.length co19,.int .i64 t468,.int .i64 t469,.int .i64 t470,.string t471,.int .i64 t472] 29 (0,0)) (by (with_reducible repeat (first|refine blk_drewN ?_ _|refine blk_drew ?_|refine blk_alloc ?_ _));exact BK473.out) hb)
        have n11_:=Aside0.mk (blk_below (g:=gb485) (o:=.cells #[.slice Ao26 t477.length co26,.int .i64 t480,.int .i64 t481,.int .i64 t482,.string t483,.int .i64 t484] 29 (0,0)) (by (with_reducible repeat (first|refine blk_drewN ?_ _|refine blk_drew ?_|refine blk_alloc ?_ _));exact BK485.out) hb)
        have n12_:=Aside0.mk (blk_below (g:=gb498) (o:=.cells #[.slice Ao34 t490.length co34,.int .i64 t493,.int .i64 t494,.int .i64 t495,.string t496,.int .i64 t497] 29 (0,0)) (by (with_reducible repeat (first|refine blk_drewN ?_ _|refine blk_drew ?_|refine blk_alloc ?_ _));exact BK498.out) hb)
        have n13_:=Aside0.mk (below_step (by repeat (first|(with_reducible first|exact HB.out|apply below_alloc|apply pw_below_drewN|apply below_drew1|refine below_set ?_ GE464.out|refine below_set ?_ GE473.out|refine below_set ?_ GE485.out|refine below_set ?_ GE498.out)|exact HB.out)) hb)
        clear HO459
        clear HO467
        clear HO476
        clear HO479
        clear HO489
        clear HO492
        clear HO501
        clear HO510
        clear BK464
        clear BK473
        clear BK485
        clear BK498
        clear HB
        have HO459:=n0_
        have HO467:=n1_
        have HO476:=n2_
        have HO479:=n3_
        have HO489:=n4_
        have HO492:=n5_
        have HO501:=n6_
        have HO510:=n7_
        have HO519:=n8_
        have BK464:=n9_
        have BK473:=n10_
        have BK485:=n11_
        have BK498:=n12_
        have HB:=n13_
        clear n0_ n1_ n2_ n3_ n4_ n5_ n6_ n7_ n8_ n9_ n10_ n11_ n12_ n13_
        (try clear hb)
        (try clear hb2)
        (try clear hk)
        (try clear hi)
        (try clear ho0)
        obtain ⟨Ao59,co59,eo59⟩:=Kd.R_slice HO519.out
        (first|subst eo59|(injection eo59 with f1_ f2_ f3_;have f4_:=f1_.symm;have f5_:=f3_.symm;clear f1_ f2_ f3_;subst f4_;subst f5_))
        refine hK.out _ _ ⟨(blk_cell BK473.out 0).trans rfl,(blk_cell BK473.out 1).trans rfl,(blk_cell BK473.out 2).trans rfl,(blk_cell BK473.out 3).trans rfl,(blk_cell BK473.out 4).trans rfl,(blk_cell BK473.out 5).trans rfl,(blk_cell BK464.out 0).trans rfl,(blk_cell BK464.out 1).trans rfl,(blk_cell BK464.out 2).trans rfl,(blk_cell BK464.out 3).trans rfl,(blk_cell BK485.out 0).trans rfl,(blk_cell BK485.out 1).trans rfl,(blk_cell BK485.out 2).trans rfl,(blk_cell BK485.out 3).trans rfl,(blk_cell BK485.out 4).trans rfl,(blk_cell BK485.out 5).trans rfl,(blk_cell BK498.out 0).trans rfl,(blk_cell BK498.out 1).trans rfl,(blk_cell BK498.out 2).trans rfl,(blk_cell BK498.out 3).trans rfl,(blk_cell BK498.out 4).trans rfl,(blk_cell BK498.out 5).trans rfl⟩ (fun hHeld=>?_)
        clear hK K
        refine norm_ (a':=?_) ?_ ?_
        rotate_left
        ·show Act.put _ (some 61) _ = _
         simp only [Act.put,List.setIfInBounds_toArray,List.set_cons_zero,List.set_cons_succ,i64_w,i32_w]
         rfl
        refine one_ (i:=18) (N:=some 62) #[true,true,true,true,true,true,true,true,true,true,true,true,true,true,true,true,true,true,true,false,false,false,false,false,false,false,false,false] rfl rfl (one_of HT_.out (by kernel_rfl)) (by decide) (fun K hK=>?_)
        refine goes_ Try.func13 (by kernel_rfl) rfl #[.agg #[.slice Ao34 t490.length co34,.int .i64 t493,.int .i64 t494,.int .i64 t495,.string t496,.int .i64 t497],.agg #[.slice Ao59 t517.length co59,.int .i64 t520,.int .i64 t521,.int .i64 t522,.string t523,.int .i64 t524]] (by rfl) rfl rfl (by (try simp only [List.map_toArray,List.map_cons,List.map_nil]);first|done|rfl|(simp only [List.length_drop,List.length_take];rfl)) ?_
        with_reducible refine (laws_lwQueues.calls kj2 _ _ t490 t493 t494 t495 t496 t497 _ _ t517 t520 t521 t522 t523 t524 true _ ?side1 ?side2 ?side3 ?side4 A46.out).mono ?_
        (case side1=>repeat (first|exact (Kd.R_reads' HO492.out).2.2|(with_reducible refine Kd.C_alloc ?_ _)|(with_reducible refine Kd.C_drewN ?_ _)|(with_reducible refine Kd.C_drew ?_)))
        (case side2=>exact (Kd.R_reads' HO492.out).2.1)
        (case side3=>repeat (first|exact (Kd.R_reads' HO519.out).2.2|(with_reducible refine Kd.C_alloc ?_ _)|(with_reducible refine Kd.C_drewN ?_ _)|(with_reducible refine Kd.C_drew ?_)))
        (case side4=>exact (Kd.R_reads' HO519.out).2.1)
        rintro e w60 ⟨rfl,hb⟩
        refine ⟨_,rfl,?_⟩
        have n0_:=Aside0.mk (Kd.R_below (by (with_reducible repeat (first|apply Kd.R_alloc|apply Kd.R_drewN|apply Kd.R_drew));exact HO459.out) hb)
        have n1_:=Aside0.mk (Kd.R_below (by (with_reducible repeat (first|apply Kd.R_alloc|apply Kd.R_drewN|apply Kd.R_drew));exact HO467.out) hb)
        have n2_:=Aside0.mk (Kd.R_below (by (with_reducible repeat (first|apply Kd.R_alloc|apply Kd.R_drewN|apply Kd.R_drew));exact HO476.out) hb)
        have n3_:=Aside0.mk (Kd.R_below (by (with_reducible repeat (first|apply Kd.R_alloc|apply Kd.R_drewN|apply Kd.R_drew));exact HO479.out) hb)
        have n4_:=Aside0.mk (Kd.R_below (by (with_reducible repeat (first|apply Kd.R_alloc|apply Kd.R_drewN|apply Kd.R_drew));exact HO489.out) hb)
        have n5_:=Aside0.mk (Kd.R_below (by (with_reducible repeat (first|apply Kd.R_alloc|apply Kd.R_drewN|apply Kd.R_drew));exact HO492.out) hb)
        have n6_:=Aside0.mk (Kd.R_below (by (with_reducible repeat (first|apply Kd.R_alloc|apply Kd.R_drewN|apply Kd.R_drew));exact HO501.out) hb)
        have n7_:=Aside0.mk (Kd.R_below (by (with_reducible repeat (first|apply Kd.R_alloc|apply Kd.R_drewN|apply Kd.R_drew));exact HO510.out) hb)
        have n8_:=Aside0.mk (Kd.R_below (by (with_reducible repeat (first|apply Kd.R_alloc|apply Kd.R_drewN|apply Kd.R_drew));exact HO519.out) hb)
        have n9_:=Aside0.mk (blk_below (g:=gb464) (o:=.cells #[.int .i64 t460,.int .i64 t461,.int .i64 t462,.string t463] 25 (0,0)) (by (with_reducible repeat (first|refine blk_drewN ?_ _|refine blk_drew ?_|refine blk_alloc ?_ _));exact BK464.out) hb)
        have n10_:=Aside0.mk (blk_below (g:=gb473) (o:=.cells #[.slice Ao19 t465.length co19,.int .i64 t468,.int .i64 t469,.int .i64 t470,.string t471,.int .i64 t472] 29 (0,0)) (by (with_reducible repeat (first|refine blk_drewN ?_ _|refine blk_drew ?_|refine blk_alloc ?_ _));exact BK473.out) hb)
        have n11_:=Aside0.mk (blk_below (g:=gb485) (o:=.cells #[.slice Ao26 t477.length co26,.int .i64 t480,.int .i64 t481,.int .i64 t482,.string t483,.int .i64 t484] 29 (0,0)) (by (with_reducible repeat (first|refine blk_drewN ?_ _|refine blk_drew ?_|refine blk_alloc ?_ _));exact BK485.out) hb)
        have n12_:=Aside0.mk (blk_below (g:=gb498) (o:=.cells #[.slice Ao34 t490.length co34,.int .i64 t493,.int .i64 t494,.int .i64 t495,.string t496,.int .i64 t497] 29 (0,0)) (by (with_reducible repeat (first|refine blk_drewN ?_ _|refine blk_drew ?_|refine blk_alloc ?_ _));exact BK498.out) hb)
        have n13_:=Aside0.mk (below_step (by repeat (first|(with_reducible first|exact HB.out|apply below_alloc|apply pw_below_drewN|apply below_drew1|refine below_set ?_ GE464.out|refine below_set ?_ GE473.out|refine below_set ?_ GE485.out|refine below_set ?_ GE498.out)|exact HB.out)) hb)
        clear HO459
        clear HO467
        clear HO476
        clear HO479
        clear HO489
        clear HO492
        clear HO501
        clear HO510
        clear HO519
        clear BK464
        clear BK473
        clear BK485
        clear BK498
        clear HB
        have HO459:=n0_
        have HO467:=n1_
        have HO476:=n2_
        have HO479:=n3_
        have HO489:=n4_
        have HO492:=n5_
        have HO501:=n6_
        have HO510:=n7_
        have HO519:=n8_
        have BK464:=n9_
        have BK473:=n10_
        have BK485:=n11_
        have BK498:=n12_
        have HB:=n13_
        clear n0_ n1_ n2_ n3_ n4_ n5_ n6_ n7_ n8_ n9_ n10_ n11_ n12_ n13_
        (try clear hb)
        (try clear hb2)
        (try clear hk)
        (try clear hi)
        refine hK.out _ _ ⟨(blk_cell BK473.out 0).trans rfl,(blk_cell BK473.out 1).trans rfl,(blk_cell BK473.out 2).trans rfl,(blk_cell BK473.out 3).trans rfl,(blk_cell BK473.out 4).trans rfl,(blk_cell BK473.out 5).trans rfl,(blk_cell BK464.out 0).trans rfl,(blk_cell BK464.out 1).trans rfl,(blk_cell BK464.out 2).trans rfl,(blk_cell BK464.out 3).trans rfl,(blk_cell BK485.out 0).trans rfl,(blk_cell BK485.out 1).trans rfl,(blk_cell BK485.out 2).trans rfl,(blk_cell BK485.out 3).trans rfl,(blk_cell BK485.out 4).trans rfl,(blk_cell BK485.out 5).trans rfl,(blk_cell BK498.out 0).trans rfl,(blk_cell BK498.out 1).trans rfl,(blk_cell BK498.out 2).trans rfl,(blk_cell BK498.out 3).trans rfl,(blk_cell BK498.out 4).trans rfl,(blk_cell BK498.out 5).trans rfl⟩ (fun hHeld=>?_)
        clear hK K
        refine norm_ (a':=?_) ?_ ?_
        rotate_left
        ·show Act.put _ (some 62) _ = _
         simp only [Act.put,List.setIfInBounds_toArray,List.set_cons_zero,List.set_cons_succ,i64_w,i32_w]
         rfl
        refine pure_ (i:=19) (N:=some 63) (v:=?_) (a':=?_) #[true,true,true,true,true,true,true,true,true,true,true,true,true,true,true,true,true,true,true,true,false,false,false,false,false,false,false,false] rfl rfl (any_of HT_.out (by kernel_rfl)) (fun _ _ _ h=>h) (Or.inl ⟨by rfl,?_⟩) ?_ ?_
        rotate_left
        ·intro w'
         go_simp
         with_reducible rfl
        rotate_left
        ·simp only [Act.put,List.setIfInBounds_toArray,List.set_cons_zero,List.set_cons_succ,i64_w,i32_w]
         rfl
        refine pure_ (i:=20) (N:=some 64) (v:=?_) (a':=?_) #[true,true,true,true,true,true,true,true,true,true,true,true,true,true,true,true,true,true,true,true,true,false,false,false,false,false,false,false] rfl rfl (any_of HT_.out (by kernel_rfl)) (fun _ _ _ h=>h) (Or.inl ⟨by rfl,?_⟩) ?_ ?_
        rotate_left
        ·intro w'
         go_simp
         with_reducible rfl
        rotate_left
        ·simp only [Act.put,List.setIfInBounds_toArray,List.set_cons_zero,List.set_cons_succ,i64_w,i32_w]
         rfl
        refine pure_ (i:=21) (N:=some 65) (v:=?_) (a':=?_) #[true,true,true,true,true,true,true,true,true,true,true,true,true,true,true,true,true,true,true,true,true,true,false,false,false,false,false,false] rfl rfl (any_of HT_.out (by kernel_rfl)) (fun _ _ _ h=>h) (Or.inl ⟨by rfl,?_⟩) ?_ ?_
        rotate_left
        ·intro w'
         go_simp
         with_reducible rfl
        rotate_left
        ·simp only [Act.put,List.setIfInBounds_toArray,List.set_cons_zero,List.set_cons_succ,i64_w,i32_w]
         rfl
        refine pure_ (i:=22) (N:=some 66) (v:=?_) (a':=?_) #[true,true,true,true,true,true,true,true,true,true,true,true,true,true,true,true,true,true,true,true,true,true,true,false,false,false,false,false] rfl rfl (any_of HT_.out (by kernel_rfl)) (fun _ _ _ h=>h) (Or.inl ⟨by rfl,?_⟩) ?_ ?_
        rotate_left
        ·intro w'
         go_simp
         with_reducible rfl
        rotate_left
        ·simp only [Act.put,List.setIfInBounds_toArray,List.set_cons_zero,List.set_cons_succ,i64_w,i32_w]
         rfl
        refine pure_ (i:=24) (N:=some 68) (v:=?_) (a':=?_) #[true,true,true,true,true,true,true,true,true,true,true,true,true,true,true,true,true,true,true,true,true,true,true,false,true,false,false,false] rfl rfl (any_of HT_.out (by kernel_rfl)) (fun _ _ _ h=>h) (Or.inl ⟨by rfl,?_⟩) ?_ ?_
        rotate_left
        ·intro w'
         go_simp
         with_reducible rfl
        rotate_left
        ·simp only [Act.put,List.setIfInBounds_toArray,List.set_cons_zero,List.set_cons_succ,i64_w,i32_w]
         rfl
        refine one_ (i:=23) (N:=some 67) #[true,true,true,true,true,true,true,true,true,true,true,true,true,true,true,true,true,true,true,true,true,true,true,true,true,false,false,false] rfl rfl (one_of HT_.out (by kernel_rfl)) (by decide) (fun K hK=>?_)
        refine goes_ Try.func17 (by kernel_rfl) rfl #[.slice Ao16 t457.length co16] (by rfl) rfl rfl (by (try simp only [List.map_toArray,List.map_cons,List.map_nil]);first|done|rfl|(simp only [List.length_drop,List.length_take];rfl)) ?_
        with_reducible refine (impl_QueueRight.calls kj2 _ _ t457 t526 _ ?side1 ?side2 A48.out).mono ?_
        (case side1=>repeat (first|exact (Kd.R_reads' HO459.out).2.2|(with_reducible refine Kd.C_alloc ?_ _)|(with_reducible refine Kd.C_drewN ?_ _)|(with_reducible refine Kd.C_drew ?_)))
        (case side2=>exact (Kd.R_reads' HO459.out).2.1)
        rintro e w61 ⟨rfl,hb⟩
        refine ⟨_,rfl,?_⟩
        have n0_:=Aside0.mk (Kd.R_below (by (with_reducible repeat (first|apply Kd.R_alloc|apply Kd.R_drewN|apply Kd.R_drew));exact HO459.out) hb)
        have n1_:=Aside0.mk (Kd.R_below (by (with_reducible repeat (first|apply Kd.R_alloc|apply Kd.R_drewN|apply Kd.R_drew));exact HO467.out) hb)
        have n2_:=Aside0.mk (Kd.R_below (by (with_reducible repeat (first|apply Kd.R_alloc|apply Kd.R_drewN|apply Kd.R_drew));exact HO476.out) hb)
        have n3_:=Aside0.mk (Kd.R_below (by (with_reducible repeat (first|apply Kd.R_alloc|apply Kd.R_drewN|apply Kd.R_drew));exact HO479.out) hb)
        have n4_:=Aside0.mk (Kd.R_below (by (with_reducible repeat (first|apply Kd.R_alloc|apply Kd.R_drewN|apply Kd.R_drew));exact HO489.out) hb)
        have n5_:=Aside0.mk (Kd.R_below (by (with_reducible repeat (first|apply Kd.R_alloc|apply Kd.R_drewN|apply Kd.R_drew));exact HO492.out) hb)
        have n6_:=Aside0.mk (Kd.R_below (by (with_reducible repeat (first|apply Kd.R_alloc|apply Kd.R_drewN|apply Kd.R_drew));exact HO501.out) hb)
        have n7_:=Aside0.mk (Kd.R_below (by (with_reducible repeat (first|apply Kd.R_alloc|apply Kd.R_drewN|apply Kd.R_drew));exact HO510.out) hb)
        have n8_:=Aside0.mk (Kd.R_below (by (with_reducible repeat (first|apply Kd.R_alloc|apply Kd.R_drewN|apply Kd.R_drew));exact HO519.out) hb)
        have n9_:=Aside0.mk (blk_below (g:=gb464) (o:=.cells #[.int .i64 t460,.int .i64 t461,.int .i64 t462,.string t463] 25 (0,0)) (by (with_reducible repeat (first|refine blk_drewN ?_ _|refine blk_drew ?_|refine blk_alloc ?_ _));exact BK464.out) hb)
        have n10_:=Aside0.mk (blk_below (g:=gb473) (o:=.cells #[.slice Ao19 t465.length co19,.int .i64 t468,.int .i64 t469,.int .i64 t470,.string t471,.int .i64 t472] 29 (0,0)) (by (with_reducible repeat (first|refine blk_drewN ?_ _|refine blk_drew ?_|refine blk_alloc ?_ _));exact BK473.out) hb)
        have n11_:=Aside0.mk (blk_below (g:=gb485) (o:=.cells #[.slice Ao26 t477.length co26,.int .i64 t480,.int .i64 t481,.int .i64 t482,.string t483,.int .i64 t484] 29 (0,0)) (by (with_reducible repeat (first|refine blk_drewN ?_ _|refine blk_drew ?_|refine blk_alloc ?_ _));exact BK485.out) hb)
        have n12_:=Aside0.mk (blk_below (g:=gb498) (o:=.cells #[.slice Ao34 t490.length co34,.int .i64 t493,.int .i64 t494,.int .i64 t495,.string t496,.int .i64 t497] 29 (0,0)) (by (with_reducible repeat (first|refine blk_drewN ?_ _|refine blk_drew ?_|refine blk_alloc ?_ _));exact BK498.out) hb)
        have n13_:=Aside0.mk (below_step (by repeat (first|(with_reducible first|exact HB.out|apply below_alloc|apply pw_below_drewN|apply below_drew1|refine below_set ?_ GE464.out|refine below_set ?_ GE473.out|refine below_set ?_ GE485.out|refine below_set ?_ GE498.out)|exact HB.out)) hb)
        clear HO459
        clear HO467
        clear HO476
        clear HO479
        clear HO489
        clear HO492
        clear HO501
        clear HO510
        clear HO519
        clear BK464
        clear BK473
        clear BK485
        clear BK498
        clear HB
        have HO459:=n0_
        have HO467:=n1_
        have HO476:=n2_
        have HO479:=n3_
        have HO489:=n4_
        have HO492:=n5_
        have HO501:=n6_
        have HO510:=n7_
        have HO519:=n8_
        have BK464:=n9_
        have BK473:=n10_
        have BK485:=n11_
        have BK498:=n12_
        have HB:=n13_
        clear n0_ n1_ n2_ n3_ n4_ n5_ n6_ n7_ n8_ n9_ n10_ n11_ n12_ n13_
        (try clear hb)
        (try clear hb2)
        (try clear hk)
        (try clear hi)
        refine hK.out _ _ ⟨(blk_cell BK473.out 0).trans rfl,(blk_cell BK473.out 1).trans rfl,(blk_cell BK473.out 2).trans rfl,(blk_cell BK473.out 3).trans rfl,(blk_cell BK473.out 4).trans rfl,(blk_cell BK473.out 5).trans rfl,(blk_cell BK464.out 0).trans rfl,(blk_cell BK464.out 1).trans rfl,(blk_cell BK464.out 2).trans rfl,(blk_cell BK464.out 3).trans rfl,(blk_cell BK485.out 0).trans rfl,(blk_cell BK485.out 1).trans rfl,(blk_cell BK485.out 2).trans rfl,(blk_cell BK485.out 3).trans rfl,(blk_cell BK485.out 4).trans rfl,(blk_cell BK485.out 5).trans rfl,(blk_cell BK498.out 0).trans rfl,(blk_cell BK498.out 1).trans rfl,(blk_cell BK498.out 2).trans rfl,(blk_cell BK498.out 3).trans rfl,(blk_cell BK498.out 4).trans rfl,(blk_cell BK498.out 5).trans rfl⟩ (fun hHeld=>?_)
        clear hK K
        refine norm_ (a':=?_) ?_ ?_
        rotate_left
        ·show Act.put _ (some 67) _ = _
         simp only [Act.put,List.setIfInBounds_toArray,List.set_cons_zero,List.set_cons_succ,i64_w,i32_w]
         rfl
        refine one_ (i:=25) (N:=some 69) #[true,true,true,true,true,true,true,true,true,true,true,true,true,true,true,true,true,true,true,true,true,true,true,true,true,true,false,false] rfl rfl (one_of HT_.out (by kernel_rfl)) (by decide) (fun K hK=>?_)
        refine goes_ Try.func18 (by kernel_rfl) rfl #[.slice Ao16 t457.length co16] (by rfl) rfl rfl (by (try simp only [List.map_toArray,List.map_cons,List.map_nil]);first|done|rfl|(simp only [List.length_drop,List.length_take];rfl)) ?_
        with_reducible refine (spec_QueueRight.calls kj2 _ _ t457 t527 _ ?side1 ?side2 A49.out).mono ?_
        (case side1=>repeat (first|exact (Kd.R_reads' HO459.out).2.2|(with_reducible refine Kd.C_alloc ?_ _)|(with_reducible refine Kd.C_drewN ?_ _)|(with_reducible refine Kd.C_drew ?_)))
        (case side2=>exact (Kd.R_reads' HO459.out).2.1)
        rintro e w62 ⟨rfl,hb⟩
        refine ⟨_,rfl,?_⟩
        have n0_:=Aside0.mk (Kd.R_below (by (with_reducible repeat (first|apply Kd.R_alloc|apply Kd.R_drewN|apply Kd.R_drew));exact HO459.out) hb)
        have n1_:=Aside0.mk (Kd.R_below (by (with_reducible repeat (first|apply Kd.R_alloc|apply Kd.R_drewN|apply Kd.R_drew));exact HO467.out) hb)
        have n2_:=Aside0.mk (Kd.R_below (by (with_reducible repeat (first|apply Kd.R_alloc|apply Kd.R_drewN|apply Kd.R_drew));exact HO476.out) hb)
        have n3_:=Aside0.mk (Kd.R_below (by (with_reducible repeat (first|apply Kd.R_alloc|apply Kd.R_drewN|apply Kd.R_drew));exact HO479.out) hb)
        have n4_:=Aside0.mk (Kd.R_below (by (with_reducible repeat (first|apply Kd.R_alloc|apply Kd.R_drewN|apply Kd.R_drew));exact HO489.out) hb)
        have n5_:=Aside0.mk (Kd.R_below (by (with_reducible repeat (first|apply Kd.R_alloc|apply Kd.R_drewN|apply Kd.R_drew));exact HO492.out) hb)
        have n6_:=Aside0.mk (Kd.R_below (by (with_reducible repeat (first|apply Kd.R_alloc|apply Kd.R_drewN|apply Kd.R_drew));exact HO501.out) hb)
        have n7_:=Aside0.mk (Kd.R_below (by (with_reducible repeat (first|apply Kd.R_alloc|apply Kd.R_drewN|apply Kd.R_drew));exact HO510.out) hb)
        have n8_:=Aside0.mk (Kd.R_below (by (with_reducible repeat (first|apply Kd.R_alloc|apply Kd.R_drewN|apply Kd.R_drew));exact HO519.out) hb)
        have n9_:=Aside0.mk (blk_below (g:=gb464) (o:=.cells #[.int .i64 t460,.int .i64 t461,.int .i64 t462,.string t463] 25 (0,0)) (by (with_reducible repeat (first|refine blk_drewN ?_ _|refine blk_drew ?_|refine blk_alloc ?_ _));exact BK464.out) hb)
        have n10_:=Aside0.mk (blk_below (g:=gb473) (o:=.cells #[.slice Ao19 t465.length co19,.int .i64 t468,.int .i64 t469,.int .i64 t470,.string t471,.int .i64 t472] 29 (0,0)) (by (with_reducible repeat (first|refine blk_drewN ?_ _|refine blk_drew ?_|refine blk_alloc ?_ _));exact BK473.out) hb)
        have n11_:=Aside0.mk (blk_below (g:=gb485) (o:=.cells #[.slice Ao26 t477.length co26,.int .i64 t480,.int .i64 t481,.int .i64 t482,.string t483,.int .i64 t484] 29 (0,0)) (by (with_reducible repeat (first|refine blk_drewN ?_ _|refine blk_drew ?_|refine blk_alloc ?_ _));exact BK485.out) hb)
        have n12_:=Aside0.mk (blk_below (g:=gb498) (o:=.cells #[.slice Ao34 t490.length co34,.int .i64 t493,.int .i64 t494,.int .i64 t495,.string t496,.int .i64 t497] 29 (0,0)) (by (with_reducible repeat (first|refine blk_drewN ?_ _|refine blk_drew ?_|refine blk_alloc ?_ _));exact BK498.out) hb)
        have n13_:=Aside0.mk (below_step (by repeat (first|(with_reducible first|exact HB.out|apply below_alloc|apply pw_below_drewN|apply below_drew1|refine below_set ?_ GE464.out|refine below_set ?_ GE473.out|refine below_set ?_ GE485.out|refine below_set ?_ GE498.out)|exact HB.out)) hb)
        clear HO459
        clear HO467
        clear HO476
        clear HO479
        clear HO489
        clear HO492
        clear HO501
        clear HO510
        clear HO519
        clear BK464
        clear BK473
        clear BK485
        clear BK498
        clear HB
        have HO459:=n0_
        have HO467:=n1_
        have HO476:=n2_
        have HO479:=n3_
        have HO489:=n4_
        have HO492:=n5_
        have HO501:=n6_
        have HO510:=n7_
        have HO519:=n8_
        have BK464:=n9_
        have BK473:=n10_
        have BK485:=n11_
        have BK498:=n12_
        have HB:=n13_
        clear n0_ n1_ n2_ n3_ n4_ n5_ n6_ n7_ n8_ n9_ n10_ n11_ n12_ n13_
        (try clear hb)
        (try clear hb2)
        (try clear hk)
        (try clear hi)
        refine hK.out _ _ ⟨(blk_cell BK473.out 0).trans rfl,(blk_cell BK473.out 1).trans rfl,(blk_cell BK473.out 2).trans rfl,(blk_cell BK473.out 3).trans rfl,(blk_cell BK473.out 4).trans rfl,(blk_cell BK473.out 5).trans rfl,(blk_cell BK464.out 0).trans rfl,(blk_cell BK464.out 1).trans rfl,(blk_cell BK464.out 2).trans rfl,(blk_cell BK464.out 3).trans rfl,(blk_cell BK485.out 0).trans rfl,(blk_cell BK485.out 1).trans rfl,(blk_cell BK485.out 2).trans rfl,(blk_cell BK485.out 3).trans rfl,(blk_cell BK485.out 4).trans rfl,(blk_cell BK485.out 5).trans rfl,(blk_cell BK498.out 0).trans rfl,(blk_cell BK498.out 1).trans rfl,(blk_cell BK498.out 2).trans rfl,(blk_cell BK498.out 3).trans rfl,(blk_cell BK498.out 4).trans rfl,(blk_cell BK498.out 5).trans rfl⟩ (fun hHeld=>?_)
        clear hK K
        refine norm_ (a':=?_) ?_ ?_
        rotate_left
        ·show Act.put _ (some 69) _ = _
         simp only [Act.put,List.setIfInBounds_toArray,List.set_cons_zero,List.set_cons_succ,i64_w,i32_w]
         rfl
        refine pure_ (i:=26) (N:=some 70) (v:=?_) (a':=?_) #[true,true,true,true,true,true,true,true,true,true,true,true,true,true,true,true,true,true,true,true,true,true,true,true,true,true,true,false] rfl rfl (any_of HT_.out (by kernel_rfl)) (fun _ _ _ h=>h) (Or.inl ⟨by rfl,?_⟩) ?_ ?_
        rotate_left
        ·intro w'
         go_simp
         with_reducible rfl
        rotate_left
        ·simp only [Act.put,List.setIfInBounds_toArray,List.set_cons_zero,List.set_cons_succ,i64_w,i32_w]
         rfl
        refine pure_ (i:=27) (N:=some 71) (v:=?_) (a':=?_) #[true,true,true,true,true,true,true,true,true,true,true,true,true,true,true,true,true,true,true,true,true,true,true,true,true,true,true,true] rfl rfl (any_of HT_.out (by kernel_rfl)) (fun _ _ _ h=>h) (Or.inl ⟨by rfl,?_⟩) ?_ ?_
        rotate_left
        ·intro w'
         go_simp
         with_reducible rfl
        rotate_left
        ·simp only [Act.put,List.setIfInBounds_toArray,List.set_cons_zero,List.set_cons_succ,i64_w,i32_w]
         rfl
        refine done_ (done_of HT_.out (by kernel_rfl)) ?_
        try go_wp2
        go_meet
        case rel=>exact ⟨_,((t526 != t527)),(by first|rfl|(simp;done)|(simp [*];done)),H',⟨by have:=HJ2.out;first|omega|exact Nat.le_refl _⟩,⟨by (with_reducible repeat (first|apply Kd.R_alloc|apply Kd.R_drewN|apply Kd.R_drew));exact Kd.R_mono HO476.out (fun _ hk=>⟨hk.1.1.1.2.1,⟨hk.1.1.1.2.2.1,⟨hk.1.1.1.2.2.2.2.1,hk.1.1.1.2.2.2.2.2⟩⟩⟩)⟩,⟨by (with_reducible repeat (first|apply Kd.R_alloc|apply Kd.R_drewN|apply Kd.R_drew));exact Kd.R_mono HO467.out (fun _ hk=>⟨hk.1.1.1.2.1,⟨hk.1.1.1.2.2.1,⟨hk.1.1.1.2.2.2.2.1,hk.1.1.1.2.2.2.2.2⟩⟩⟩)⟩,⟨by (with_reducible repeat (first|apply Kd.R_alloc|apply Kd.R_drewN|apply Kd.R_drew));exact Kd.R_mono HO479.out (fun _ hk=>⟨hk.1.1.1.2.2.1,⟨hk.1.1.1.2.1,⟨hk.1.1.1.2.2.2.2.1,hk.1.1.1.2.2.2.2.2⟩⟩⟩)⟩,⟨by (with_reducible repeat (first|apply Kd.R_alloc|apply Kd.R_drewN|apply Kd.R_drew));exact Kd.R_mono HO492.out (fun _ hk=>⟨hk.1.1.1.2.2.1,⟨hk.1.1.1.2.1,⟨hk.1.1.1.2.2.2.1,hk.1.1.1.2.2.2.2.2⟩⟩⟩)⟩,⟨by (with_reducible repeat (first|refine blk_drewN ?_ _|refine blk_drew ?_|refine blk_alloc ?_ _));exact BK464.out⟩,⟨by (with_reducible repeat (first|refine blk_drewN ?_ _|refine blk_drew ?_|refine blk_alloc ?_ _));exact BK473.out⟩,⟨by (with_reducible repeat (first|refine blk_drewN ?_ _|refine blk_drew ?_|refine blk_alloc ?_ _));exact BK485.out⟩,⟨by (with_reducible repeat (first|refine blk_drewN ?_ _|refine blk_drew ?_|refine blk_alloc ?_ _));exact BK498.out⟩,⟨by repeat (first|(with_reducible first|exact HB.out|apply below_alloc|apply pw_below_drewN|apply below_drew1|refine below_set ?_ GE464.out|refine below_set ?_ GE473.out|refine below_set ?_ GE485.out|refine below_set ?_ GE498.out)|exact HB.out)⟩⟩
       ·replace c47:=Bool.eq_false_iff.mpr c47
        subst c47
        have H1:(laws_FnQueue.j1 kj2 t474 t487 true t465 t468 t469 t470 t471 t472 t477 t480 t481 t482 t483 t484 t490 t493 t494 t495 t496 t497) = some r:=by rw [if_neg (show ¬ (false = true) by decide)] at H;exact H
        clear H
        have H:=H1
        clear H1
        exact absurd (H.trans (congrArg some HT_.out)) (laws_FnQueue.j1_no _ _ _ _ _ _ _ _ _ _ _ _ _ _ _ _ _ _ _ _ _)
      ·replace c44:=Bool.eq_false_iff.mpr c44
       subst c44
       have H1:(laws_FnQueue.j1 kj2 t474 t487 true t465 t468 t469 t470 t471 t472 t477 t480 t481 t482 t483 t484 t490 t493 t494 t495 t496 t497) = some r:=by rw [if_neg (show ¬ (false = true) by decide)] at H;exact H
       clear H
       have H:=H1
       clear H1
       exact absurd (H.trans (congrArg some HT_.out)) (laws_FnQueue.j1_no _ _ _ _ _ _ _ _ _ _ _ _ _ _ _ _ _ _ _ _ _)
     ·replace c41:=Bool.eq_false_iff.mpr c41
      subst c41
      have H1:(laws_FnQueue.j1 kj2 t474 t487 true t465 t468 t469 t470 t471 t472 t477 t480 t481 t482 t483 t484 t490 t493 t494 t495 t496 t497) = some r:=by rw [if_neg (show ¬ (false = true) by decide)] at H;exact H
      clear H
      have H:=H1
      clear H1
      exact absurd (H.trans (congrArg some HT_.out)) (laws_FnQueue.j1_no _ _ _ _ _ _ _ _ _ _ _ _ _ _ _ _ _ _ _ _ _)
    case rest =>
     as_aux_lemma =>
     clear HC12
     try clear c1
     try clear p2
     try clear c4
     try clear c13
     try clear c14
     try clear c15
     try clear c41
     obtain ⟨kq,x71_11,rfl,HA,HJ11,HO_8,HO_474000,HO_486000,HO_499000,BK464,BK473,BK485,BK498,HB⟩:=hcut
     cases kq with
     | zero=>exact absurd HA.out (by simp [laws_FnQueue.j1])
     | succ kj11 =>
      have H:=HA.out
      clear HA
      simp only [laws_FnQueue.j1] at H
      by_cases c87:x71_11 = true
      ·subst c87
       have H1:(some false) = some r:=by rw [if_pos rfl] at H;exact H
       clear H
       have H:=H1
       clear H1
       exact absurd ((Option.some.inj H).trans HT_.out) (by decide)
      ·replace c87:=Bool.eq_false_iff.mpr c87
       subst c87
       have H1:(laws_FnQueue.l0 kj11 t474 t487 0 t465 t468 t469 t470 t471 t472 t477 t480 t481 t482 t483 t484 t490 t493 t494 t495 t496 t497) = some r:=by rw [if_neg (show ¬ (false = true) by decide)] at H;exact H
       clear H
       have H:=H1
       clear H1
       have H':=Aside0.mk H
       clear H
       go_wp2
       go_loopg [13] kj11 (fun kq v13 w'=>∃ (x13_3:Int),v13 = .int .i64 x13_3∧Aside0 (laws_FnQueue.l0 kq t474 t487 x13_3 t465 t468 t469 t470 t471 t472 t477 t480 t481 t482 t483 t484 t490 t493 t494 t495 t496 t497 = some r)∧Aside0 (kq≤kj11)∧Aside0 (Kd.R k25 25 w' w.heap.size (fun k_=>some k_≠((.slice Ao19 t465.length co19):Value).ownBlock∧some k_≠((.slice Ao26 t477.length co26):Value).ownBlock∧some k_≠((.slice Ao34 t490.length co34):Value).ownBlock∧k_≠gb464) (.slice Ao23 t474.length co23) t474)∧Aside0 (Kd.R k25 25 w' w.heap.size (fun k_=>some k_≠((.slice Ao23 t474.length co23):Value).ownBlock∧some k_≠((.slice Ao26 t477.length co26):Value).ownBlock∧some k_≠((.slice Ao34 t490.length co34):Value).ownBlock∧k_≠gb464) (.slice Ao19 t465.length co19) t465)∧Aside0 (Kd.R k25 25 w' w.heap.size (fun k_=>some k_≠((.slice Ao23 t474.length co23):Value).ownBlock∧some k_≠((.slice Ao19 t465.length co19):Value).ownBlock∧some k_≠((.slice Ao34 t490.length co34):Value).ownBlock∧k_≠gb464) (.slice Ao26 t477.length co26) t477)∧Aside0 (Kd.R k25 25 w' w.heap.size (fun k_=>some k_≠((.slice Ao23 t474.length co23):Value).ownBlock∧some k_≠((.slice Ao19 t465.length co19):Value).ownBlock∧some k_≠((.slice Ao26 t477.length co26):Value).ownBlock∧k_≠gb464) (.slice Ao34 t490.length co34) t490)∧Aside0 (w'.heap[gb464]? = some (.cells #[.int .i64 t460,.int .i64 t461,.int .i64 t462,.string t463] 25 (0,0)))∧Aside0 (w'.heap[gb473]? = some (.cells #[(.slice Ao19 t465.length co19),.int .i64 t468,.int .i64 t469,.int .i64 t470,.string t471,.int .i64 t472] 29 (0,0)))∧Aside0 (w'.heap[gb485]? = some (.cells #[(.slice Ao26 t477.length co26),.int .i64 t480,.int .i64 t481,.int .i64 t482,.string t483,.int .i64 t484] 29 (0,0)))∧Aside0 (w'.heap[gb498]? = some (.cells #[(.slice Ao34 t490.length co34),.int .i64 t493,.int .i64 t494,.int .i64 t495,.string t496,.int .i64 t497] 29 (0,0)))∧Aside0 (Below w.heap.size w w'))
       case atStart=>exact ⟨(0),(by first|rfl|(simp;done)|(simp [*];done)),H',⟨Nat.le_refl _⟩,⟨by (with_reducible repeat (first|apply Kd.R_alloc|apply Kd.R_drewN|apply Kd.R_drew));exact HO_8.out⟩,⟨by (with_reducible repeat (first|apply Kd.R_alloc|apply Kd.R_drewN|apply Kd.R_drew));exact HO_474000.out⟩,⟨by (with_reducible repeat (first|apply Kd.R_alloc|apply Kd.R_drewN|apply Kd.R_drew));exact HO_486000.out⟩,⟨by (with_reducible repeat (first|apply Kd.R_alloc|apply Kd.R_drewN|apply Kd.R_drew));exact HO_499000.out⟩,⟨by (with_reducible repeat (first|refine blk_drewN ?_ _|refine blk_drew ?_|refine blk_alloc ?_ _));exact BK464.out⟩,⟨by (with_reducible repeat (first|refine blk_drewN ?_ _|refine blk_drew ?_|refine blk_alloc ?_ _));exact BK473.out⟩,⟨by (with_reducible repeat (first|refine blk_drewN ?_ _|refine blk_drew ?_|refine blk_alloc ?_ _));exact BK485.out⟩,⟨by (with_reducible repeat (first|refine blk_drewN ?_ _|refine blk_drew ?_|refine blk_alloc ?_ _));exact BK498.out⟩,⟨by repeat (first|(with_reducible first|exact HB.out|apply below_alloc|apply pw_below_drewN|apply below_drew1|refine below_set ?_ GE464.out|refine below_set ?_ GE473.out|refine below_set ?_ GE485.out|refine below_set ?_ GE498.out)|exact HB.out)⟩⟩
       case round =>
        as_aux_lemma =>
        clear H'
        try clear c1
        try clear p2
        try clear c4
        try clear c8
        try clear c13
        try clear c14
        try clear c15
        try clear c41
        try clear c87
        try clear p2
        obtain ⟨x13_3,rfl,HA,HK3,HO_8,HO_474000,HO_486000,HO_499000,BK464,BK473,BK485,BK498,HB⟩:=hrel
        cases gk with
        | zero=>exact absurd HA.out (by simp [laws_FnQueue.l0])
        | succ k3 =>
         have H:=HA.out
         clear HA
         simp only [laws_FnQueue.l0] at H
         by_cases c88:x13_3 < (t490.length:Int)
         ·rw [if_pos c88] at H
          have c88b0:decide (x13_3 < (t490.length:Int)) = true:=decide_eq_true c88
          clear c88
          by_cases c89:0≤x13_3
          ·rw [if_pos c89] at H
           have c89b0:decide (0≤x13_3) = true:=decide_eq_true c89
           clear c89
           by_cases c90:((rd_T25 t490 x13_3).f2) = t487
           ·rw [if_pos c90] at H
            have c90b0:(((rd_T25 t490 x13_3).f2) == t487) = true:=beq_iff_eq.mpr c90
            have c90b1:(((rd_T25 t490 x13_3).f2) != t487) = false:=bne_eq_false_iff_eq.mpr c90
            clear c90
            exact absurd ((Option.some.inj H).trans HT_.out) (by decide)
           ·rw [if_neg c90] at H
            have c90b0:(((rd_T25 t490 x13_3).f2) == t487) = false:=beq_eq_false_iff_ne.mpr c90
            have c90b1:(((rd_T25 t490 x13_3).f2) != t487) = true:=bne_iff_ne.mpr c90
            have H':=Aside0.mk H
            clear H
            have hnb91:=NB498_464.out
            have hnc91:=NB464_498.out
            have hnb92:=NB498_473.out
            have hnc92:=NB473_498.out
            have hnb93:=NB498_485.out
            have hnc93:=NB485_498.out
            have hcz94_0:wr.cell? ⟨gb498,0,none⟩ = some (.slice Ao34 t490.length co34):=(blk_cell BK498.out 0).trans rfl
            have hcz94_1:wr.cell? ⟨gb498,1,none⟩ = some (.int .i64 t493):=(blk_cell BK498.out 1).trans rfl
            have hcz94_2:wr.cell? ⟨gb498,2,none⟩ = some (.int .i64 t494):=(blk_cell BK498.out 2).trans rfl
            have hcz94_3:wr.cell? ⟨gb498,3,none⟩ = some (.int .i64 t495):=(blk_cell BK498.out 3).trans rfl
            have hcz94_4:wr.cell? ⟨gb498,4,none⟩ = some (.string t496):=(blk_cell BK498.out 4).trans rfl
            have hcz94_5:wr.cell? ⟨gb498,5,none⟩ = some (.int .i64 t497):=(blk_cell BK498.out 5).trans rfl
            have hfz94_0:=blk_frozen BK498.out 0
            have hfz94_1:=blk_frozen BK498.out 1
            have hfz94_2:=blk_frozen BK498.out 2
            have hfz94_3:=blk_frozen BK498.out 3
            have hfz94_4:=blk_frozen BK498.out 4
            have hfz94_5:=blk_frozen BK498.out 5
            have p528:0≤(x13_3:Int):=of_decide_eq_true (by first|(with_reducible assumption)|assumption)
            have q528:x13_3 < (t490.length:Int):=of_decide_eq_true (by first|(with_reducible assumption)|assumption)
            obtain ⟨ad528,e528,hx528_0,hx528_1,hx528_2,hx528_3⟩:=at_T25 (Kd.R_reads' HO_499000.out).2.2 x13_3 p528 q528
            cases e528
            replace p528:=eq_true p528
            replace q528:=eq_true q528
            go_wp2
            go_roundg k3
            case measure=>have:=HJ2.out;have:=HJ11.out;have:=HK3.out;omega
            case rel=>exact ⟨(wrap64 (x13_3 + 1)),(by first|rfl|(simp;done)|(simp [*];done)),H',⟨by have:=HJ2.out;have:=HJ11.out;have:=HK3.out;omega⟩,⟨by (with_reducible repeat (first|apply Kd.R_alloc|apply Kd.R_drewN|apply Kd.R_drew));exact HO_8.out⟩,⟨by (with_reducible repeat (first|apply Kd.R_alloc|apply Kd.R_drewN|apply Kd.R_drew));exact HO_474000.out⟩,⟨by (with_reducible repeat (first|apply Kd.R_alloc|apply Kd.R_drewN|apply Kd.R_drew));exact HO_486000.out⟩,⟨by (with_reducible repeat (first|apply Kd.R_alloc|apply Kd.R_drewN|apply Kd.R_drew));exact HO_499000.out⟩,⟨by (with_reducible repeat (first|refine blk_drewN ?_ _|refine blk_drew ?_|refine blk_alloc ?_ _));exact BK464.out⟩,⟨by (with_reducible repeat (first|refine blk_drewN ?_ _|refine blk_drew ?_|refine blk_alloc ?_ _));exact BK473.out⟩,⟨by (with_reducible repeat (first|refine blk_drewN ?_ _|refine blk_drew ?_|refine blk_alloc ?_ _));exact BK485.out⟩,⟨by (with_reducible repeat (first|refine blk_drewN ?_ _|refine blk_drew ?_|refine blk_alloc ?_ _));exact BK498.out⟩,⟨by repeat (first|(with_reducible first|exact HB.out|apply below_alloc|apply pw_below_drewN|apply below_drew1|refine below_set ?_ GE464.out|refine below_set ?_ GE473.out|refine below_set ?_ GE485.out|refine below_set ?_ GE498.out)|exact HB.out)⟩⟩
          ·rw [if_neg c89] at H
           exact absurd H (by simp)
         ·rw [if_neg c88] at H
          have c88b0:decide (x13_3 < (t490.length:Int)) = false:=decide_eq_false c88
          clear c88
          have HC95:=Aside0.mk H
          clear H
          have hnb96:=NB498_464.out
          have hnc96:=NB464_498.out
          have hnb97:=NB498_473.out
          have hnc97:=NB473_498.out
          have hnb98:=NB498_485.out
          have hnc98:=NB485_498.out
          have hcz99_0:wr.cell? ⟨gb498,0,none⟩ = some (.slice Ao34 t490.length co34):=(blk_cell BK498.out 0).trans rfl
          have hcz99_1:wr.cell? ⟨gb498,1,none⟩ = some (.int .i64 t493):=(blk_cell BK498.out 1).trans rfl
          have hcz99_2:wr.cell? ⟨gb498,2,none⟩ = some (.int .i64 t494):=(blk_cell BK498.out 2).trans rfl
          have hcz99_3:wr.cell? ⟨gb498,3,none⟩ = some (.int .i64 t495):=(blk_cell BK498.out 3).trans rfl
          have hcz99_4:wr.cell? ⟨gb498,4,none⟩ = some (.string t496):=(blk_cell BK498.out 4).trans rfl
          have hcz99_5:wr.cell? ⟨gb498,5,none⟩ = some (.int .i64 t497):=(blk_cell BK498.out 5).trans rfl
          have hfz99_0:=blk_frozen BK498.out 0
          have hfz99_1:=blk_frozen BK498.out 1
          have hfz99_2:=blk_frozen BK498.out 2
          have hfz99_3:=blk_frozen BK498.out 3
          have hfz99_4:=blk_frozen BK498.out 4
          have hfz99_5:=blk_frozen BK498.out 5
          go_upto_region 16 with (fail)
          go_cut [100] (fun v100 wc=>∃ (kq:Nat) (x100_94:Bool),v100 = .bool x100_94∧Aside0 (laws_FnQueue.j3 kq x100_94 t465 t468 t469 t470 t471 t472 = some r)∧Aside0 (kq≤k3)∧Aside0 (Kd.R k25 25 wc w.heap.size (fun k_=>some k_≠((.slice Ao26 t477.length co26):Value).ownBlock∧some k_≠((.slice Ao34 t490.length co34):Value).ownBlock∧k_≠gb464) (.slice Ao19 t465.length co19) t465)∧Aside0 (Kd.R k25 25 wc w.heap.size (fun k_=>some k_≠((.slice Ao19 t465.length co19):Value).ownBlock∧some k_≠((.slice Ao34 t490.length co34):Value).ownBlock∧k_≠gb464) (.slice Ao26 t477.length co26) t477)∧Aside0 (Kd.R k25 25 wc w.heap.size (fun k_=>some k_≠((.slice Ao19 t465.length co19):Value).ownBlock∧some k_≠((.slice Ao26 t477.length co26):Value).ownBlock∧k_≠gb464) (.slice Ao34 t490.length co34) t490)∧Aside0 (wc.heap[gb464]? = some (.cells #[.int .i64 t460,.int .i64 t461,.int .i64 t462,.string t463] 25 (0,0)))∧Aside0 (wc.heap[gb473]? = some (.cells #[(.slice Ao19 t465.length co19),.int .i64 t468,.int .i64 t469,.int .i64 t470,.string t471,.int .i64 t472] 29 (0,0)))∧Aside0 (wc.heap[gb485]? = some (.cells #[(.slice Ao26 t477.length co26),.int .i64 t480,.int .i64 t481,.int .i64 t482,.string t483,.int .i64 t484] 29 (0,0)))∧Aside0 (wc.heap[gb498]? = some (.cells #[(.slice Ao34 t490.length co34),.int .i64 t493,.int .i64 t494,.int .i64 t495,.string t496,.int .i64 t497] 29 (0,0)))∧Aside0 (Below w.heap.size w wc))
          case first =>
           as_aux_lemma =>
           have H:=HC95.out
           clear HC95
           by_cases c100:t484 = 0
           ·rw [if_pos c100] at H
            have c100b0:(t484 == 0) = true:=beq_iff_eq.mpr c100
            have c100b1:(t484 != 0) = false:=bne_eq_false_iff_eq.mpr c100
            clear c100
            (first|rw [c100b0]|(simp only [i64_w,i32_w];rw [c100b0])|skip)
            replace H:=Option.bind_eq_some_iff.mp H
            obtain ⟨⟨t529,t532,t533,t534,t535,t536⟩,A1010,H⟩:=H
            replace H:((laws_lwQueue.f k3 t529 t474).bind fun t537=>(laws_FnQueue.j3 k3 (!t537) t465 t468 t469 t470 t471 t472)) = some r:=H
            have A101:=Aside0.mk A1010
            clear A1010
            replace H:=Option.bind_eq_some_iff.mp H
            obtain ⟨t537,A1020,H⟩:=H
            replace H:(laws_FnQueue.j3 k3 (!t537) t465 t468 t469 t470 t471 t472) = some r:=H
            have A102:=Aside0.mk A1020
            clear A1020
            have H':=Aside0.mk H
            clear H
            have hnb103:=NB485_464.out
            have hnc103:=NB464_485.out
            have hnb104:=NB485_473.out
            have hnc104:=NB473_485.out
            have hnb105:=NB485_498.out
            have hnc105:=NB498_485.out
            have hcz106_0:wr.cell? ⟨gb485,0,none⟩ = some (.slice Ao26 t477.length co26):=(blk_cell BK485.out 0).trans rfl
            have hcz106_1:wr.cell? ⟨gb485,1,none⟩ = some (.int .i64 t480):=(blk_cell BK485.out 1).trans rfl
            have hcz106_2:wr.cell? ⟨gb485,2,none⟩ = some (.int .i64 t481):=(blk_cell BK485.out 2).trans rfl
            have hcz106_3:wr.cell? ⟨gb485,3,none⟩ = some (.int .i64 t482):=(blk_cell BK485.out 3).trans rfl
            have hcz106_4:wr.cell? ⟨gb485,4,none⟩ = some (.string t483):=(blk_cell BK485.out 4).trans rfl
            have hcz106_5:wr.cell? ⟨gb485,5,none⟩ = some (.int .i64 t484):=(blk_cell BK485.out 5).trans rfl
            have hfz106_0:=blk_frozen BK485.out 0
            have hfz106_1:=blk_frozen BK485.out 1
            have hfz106_2:=blk_frozen BK485.out 2
            have hfz106_3:=blk_frozen BK485.out 3
            have hfz106_4:=blk_frozen BK485.out 4
            have hfz106_5:=blk_frozen BK485.out 5
            go_wp2_with (first|(go_at_call 8;(with_reducible refine (impl_QueuePut.calls k3 _ _ t477 t480 t481 t482 t483 t529 t532 t533 t534 t535 t536 _ ?side1 ?side2 A101.out).mono ?_);(case side1=>repeat (first|exact (Kd.R_reads' HO_486000.out).2.2|(with_reducible refine Kd.C_alloc ?_ _)|(with_reducible refine Kd.C_drewN ?_ _)|(with_reducible refine Kd.C_drew ?_)));(case side2=>exact (Kd.R_reads' HO_486000.out).2.1);rintro e w107 ⟨v530,rfl,ho0,hb⟩;have n0_:=Aside0.mk (Kd.R_elder' (by (with_reducible repeat (first|apply Kd.R_alloc|apply Kd.R_drewN|apply Kd.R_drew));exact HO_8.out) (Kd.R_base ho0) hb);have n1_:=Aside0.mk (Kd.R_elder' (by (with_reducible repeat (first|apply Kd.R_alloc|apply Kd.R_drewN|apply Kd.R_drew));exact HO_474000.out) (Kd.R_base ho0) hb);have n2_:=Aside0.mk (Kd.R_elder' (by (with_reducible repeat (first|apply Kd.R_alloc|apply Kd.R_drewN|apply Kd.R_drew));exact HO_486000.out) (Kd.R_base ho0) hb);have n3_:=Aside0.mk (Kd.R_elder' (by (with_reducible repeat (first|apply Kd.R_alloc|apply Kd.R_drewN|apply Kd.R_drew));exact HO_499000.out) (Kd.R_base ho0) hb);have n4_:=Aside0.mk (Kd.R_lower (Kd.R_newB (Kd.R_new' (Kd.R_new' (Kd.R_new' (Kd.R_new' ho0 (Kd.R_lt (by (with_reducible repeat (first|apply Kd.R_alloc|apply Kd.R_drewN|apply Kd.R_drew));exact HO_8.out))) (Kd.R_lt (by (with_reducible repeat (first|apply Kd.R_alloc|apply Kd.R_drewN|apply Kd.R_drew));exact HO_474000.out))) (Kd.R_lt (by (with_reducible repeat (first|apply Kd.R_alloc|apply Kd.R_drewN|apply Kd.R_drew));exact HO_486000.out))) (Kd.R_lt (by (with_reducible repeat (first|apply Kd.R_alloc|apply Kd.R_drewN|apply Kd.R_drew));exact HO_499000.out))) (g:=gb464) (o:=.cells #[.int .i64 t460,.int .i64 t461,.int .i64 t462,.string t463] 25 (0,0)) (by (with_reducible repeat (first|refine blk_drewN ?_ _|refine blk_drew ?_|refine blk_alloc ?_ _));exact BK464.out)) (below_size (by repeat (first|(with_reducible first|exact HB.out|apply below_alloc|apply pw_below_drewN|apply below_drew1|refine below_set ?_ GE464.out|refine below_set ?_ GE473.out|refine below_set ?_ GE485.out|refine below_set ?_ GE498.out)|exact HB.out))));have n5_:=Aside0.mk (blk_below (g:=gb464) (o:=.cells #[.int .i64 t460,.int .i64 t461,.int .i64 t462,.string t463] 25 (0,0)) (by (with_reducible repeat (first|refine blk_drewN ?_ _|refine blk_drew ?_|refine blk_alloc ?_ _));exact BK464.out) hb);have n6_:=Aside0.mk (blk_below (g:=gb473) (o:=.cells #[.slice Ao19 t465.length co19,.int .i64 t468,.int .i64 t469,.int .i64 t470,.string t471,.int .i64 t472] 29 (0,0)) (by (with_reducible repeat (first|refine blk_drewN ?_ _|refine blk_drew ?_|refine blk_alloc ?_ _));exact BK473.out) hb);have n7_:=Aside0.mk (blk_below (g:=gb485) (o:=.cells #[.slice Ao26 t477.length co26,.int .i64 t480,.int .i64 t481,.int .i64 t482,.string t483,.int .i64 t484] 29 (0,0)) (by (with_reducible repeat (first|refine blk_drewN ?_ _|refine blk_drew ?_|refine blk_alloc ?_ _));exact BK485.out) hb);have n8_:=Aside0.mk (blk_below (g:=gb498) (o:=.cells #[.slice Ao34 t490.length co34,.int .i64 t493,.int .i64 t494,.int .i64 t495,.string t496,.int .i64 t497] 29 (0,0)) (by (with_reducible repeat (first|refine blk_drewN ?_ _|refine blk_drew ?_|refine blk_alloc ?_ _));exact BK498.out) hb);have n9_:=Aside0.mk (below_step (by repeat (first|(with_reducible first|exact HB.out|apply below_alloc|apply pw_below_drewN|apply below_drew1|refine below_set ?_ GE464.out|refine below_set ?_ GE473.out|refine below_set ?_ GE485.out|refine below_set ?_ GE498.out)|exact HB.out)) hb);clear HO_8;clear HO_474000;clear HO_486000;clear HO_499000;clear BK464;clear BK473;clear BK485;clear BK498;clear HB;have HO_8:=n0_;have HO_474000:=n1_;have HO_486000:=n2_;have HO_499000:=n3_;have HO531:=n4_;have BK464:=n5_;have BK473:=n6_;have BK485:=n7_;have BK498:=n8_;have HB:=n9_;clear n0_ n1_ n2_ n3_ n4_ n5_ n6_ n7_ n8_ n9_;(try clear hb);(try clear hb2);(try clear hk);(try clear hi);(try clear ho0);obtain ⟨Ao108,co108,eo108⟩:=Kd.R_slice HO531.out;subst eo108)|(go_at_call 19;(with_reducible refine (laws_lwQueue.calls k3 _ _ t529 _ _ t474 t537 _ ?side1 ?side2 ?side3 ?side4 A102.out).mono ?_);(case side1=>repeat (first|exact (Kd.R_reads' HO531.out).2.2|(with_reducible refine Kd.C_alloc ?_ _)|(with_reducible refine Kd.C_drewN ?_ _)|(with_reducible refine Kd.C_drew ?_)));(case side2=>exact (Kd.R_reads' HO531.out).2.1);(case side3=>repeat (first|exact (Kd.R_reads' HO_8.out).2.2|(with_reducible refine Kd.C_alloc ?_ _)|(with_reducible refine Kd.C_drewN ?_ _)|(with_reducible refine Kd.C_drew ?_)));(case side4=>exact (Kd.R_reads' HO_8.out).2.1);rintro e w' ⟨rfl,⟨nd,rfl⟩⟩))
            go_meet
            case rel=>exact ⟨_,(!t537),(by first|rfl|(simp;done)|(simp [*];done)),H',⟨by have:=HJ2.out;have:=HJ11.out;have:=HK3.out;first|omega|exact Nat.le_refl _⟩,⟨by (with_reducible repeat (first|apply Kd.R_alloc|apply Kd.R_drewN|apply Kd.R_drew));exact Kd.R_mono HO_474000.out (fun _ hk=>⟨hk.1.2.1,⟨hk.1.2.2.1,hk.1.2.2.2⟩⟩)⟩,⟨by (with_reducible repeat (first|apply Kd.R_alloc|apply Kd.R_drewN|apply Kd.R_drew));exact Kd.R_mono HO_486000.out (fun _ hk=>⟨hk.1.2.1,⟨hk.1.2.2.1,hk.1.2.2.2⟩⟩)⟩,⟨by (with_reducible repeat (first|apply Kd.R_alloc|apply Kd.R_drewN|apply Kd.R_drew));exact Kd.R_mono HO_499000.out (fun _ hk=>⟨hk.1.2.1,⟨hk.1.2.2.1,hk.1.2.2.2⟩⟩)⟩,⟨by (with_reducible repeat (first|refine blk_drewN ?_ _|refine blk_drew ?_|refine blk_alloc ?_ _));exact BK464.out⟩,⟨by (with_reducible repeat (first|refine blk_drewN ?_ _|refine blk_drew ?_|refine blk_alloc ?_ _));exact BK473.out⟩,⟨by (with_reducible repeat (first|refine blk_drewN ?_ _|refine blk_drew ?_|refine blk_alloc ?_ _));exact BK485.out⟩,⟨by (with_reducible repeat (first|refine blk_drewN ?_ _|refine blk_drew ?_|refine blk_alloc ?_ _));exact BK498.out⟩,⟨by repeat (first|(with_reducible first|exact HB.out|apply below_alloc|apply pw_below_drewN|apply below_drew1|refine below_set ?_ GE464.out|refine below_set ?_ GE473.out|refine below_set ?_ GE485.out|refine below_set ?_ GE498.out)|exact HB.out)⟩⟩
           ·rw [if_neg c100] at H
            have c100b0:(t484 == 0) = false:=beq_eq_false_iff_ne.mpr c100
            have c100b1:(t484 != 0) = true:=bne_iff_ne.mpr c100
            (first|rw [c100b0]|(simp only [i64_w,i32_w];rw [c100b0])|skip)
            have H':=Aside0.mk H
            clear H
            have hnb109:=NB485_464.out
            have hnc109:=NB464_485.out
            have hnb110:=NB485_473.out
            have hnc110:=NB473_485.out
            have hnb111:=NB485_498.out
            have hnc111:=NB498_485.out
            have hcz112_0:wr.cell? ⟨gb485,0,none⟩ = some (.slice Ao26 t477.length co26):=(blk_cell BK485.out 0).trans rfl
            have hcz112_1:wr.cell? ⟨gb485,1,none⟩ = some (.int .i64 t480):=(blk_cell BK485.out 1).trans rfl
            have hcz112_2:wr.cell? ⟨gb485,2,none⟩ = some (.int .i64 t481):=(blk_cell BK485.out 2).trans rfl
            have hcz112_3:wr.cell? ⟨gb485,3,none⟩ = some (.int .i64 t482):=(blk_cell BK485.out 3).trans rfl
            have hcz112_4:wr.cell? ⟨gb485,4,none⟩ = some (.string t483):=(blk_cell BK485.out 4).trans rfl
            have hcz112_5:wr.cell? ⟨gb485,5,none⟩ = some (.int .i64 t484):=(blk_cell BK485.out 5).trans rfl
            have hfz112_0:=blk_frozen BK485.out 0
            have hfz112_1:=blk_frozen BK485.out 1
            have hfz112_2:=blk_frozen BK485.out 2
            have hfz112_3:=blk_frozen BK485.out 3
            have hfz112_4:=blk_frozen BK485.out 4
            have hfz112_5:=blk_frozen BK485.out 5
            go_wp2
            go_meet
            case rel=>exact ⟨_,(false),(by first|rfl|(simp;done)|(simp [*];done)),H',⟨by have:=HJ2.out;have:=HJ11.out;have:=HK3.out;first|omega|exact Nat.le_refl _⟩,⟨by (with_reducible repeat (first|apply Kd.R_alloc|apply Kd.R_drewN|apply Kd.R_drew));exact Kd.R_mono HO_474000.out (fun _ hk=>⟨hk.2.1,⟨hk.2.2.1,hk.2.2.2⟩⟩)⟩,⟨by (with_reducible repeat (first|apply Kd.R_alloc|apply Kd.R_drewN|apply Kd.R_drew));exact Kd.R_mono HO_486000.out (fun _ hk=>⟨hk.2.1,⟨hk.2.2.1,hk.2.2.2⟩⟩)⟩,⟨by (with_reducible repeat (first|apply Kd.R_alloc|apply Kd.R_drewN|apply Kd.R_drew));exact Kd.R_mono HO_499000.out (fun _ hk=>⟨hk.2.1,⟨hk.2.2.1,hk.2.2.2⟩⟩)⟩,⟨by (with_reducible repeat (first|refine blk_drewN ?_ _|refine blk_drew ?_|refine blk_alloc ?_ _));exact BK464.out⟩,⟨by (with_reducible repeat (first|refine blk_drewN ?_ _|refine blk_drew ?_|refine blk_alloc ?_ _));exact BK473.out⟩,⟨by (with_reducible repeat (first|refine blk_drewN ?_ _|refine blk_drew ?_|refine blk_alloc ?_ _));exact BK485.out⟩,⟨by (with_reducible repeat (first|refine blk_drewN ?_ _|refine blk_drew ?_|refine blk_alloc ?_ _));exact BK498.out⟩,⟨by repeat (first|(with_reducible first|exact HB.out|apply below_alloc|apply pw_below_drewN|apply below_drew1|refine below_set ?_ GE464.out|refine below_set ?_ GE473.out|refine below_set ?_ GE485.out|refine below_set ?_ GE498.out)|exact HB.out)⟩⟩
          case rest =>
           as_aux_lemma =>
           clear HC95
           try clear c1
           try clear p2
           try clear c4
           try clear p5
           try clear q5
           try clear hx5
           try clear p6
           try clear c8
           try clear c9
           try clear c10
           try clear c11
           try clear c13
           try clear c14
           try clear c15
           try clear c41
           try clear p52
           try clear q52
           try clear hx52
           try clear p64
           try clear c87
           try clear c88
           try clear c88b0
           try clear c89
           try clear c89b0
           try clear c90
           try clear c90b0
           try clear c90b1
           try clear c91
           try clear c92
           try clear c93
           try clear c96
           try clear c97
           try clear c98
           try clear c100
           try clear c100b0
           try clear c100b1
           try clear c103
           try clear c104
           try clear c105
           try clear c109
           try clear c110
           try clear c111
           try clear hcz106_0
           try clear hcz106_1
           try clear hcz106_2
           try clear hcz106_3
           try clear hcz106_4
           try clear hcz106_5
           try clear hcz112_0
           try clear hcz112_1
           try clear hcz112_2
           try clear hcz112_3
           try clear hcz112_4
           try clear hcz112_5
           try clear hcz94_0
           try clear hcz94_1
           try clear hcz94_2
           try clear hcz94_3
           try clear hcz94_4
           try clear hcz94_5
           try clear hcz99_0
           try clear hcz99_1
           try clear hcz99_2
           try clear hcz99_3
           try clear hcz99_4
           try clear hcz99_5
           try clear hfz106_0
           try clear hfz106_1
           try clear hfz106_2
           try clear hfz106_3
           try clear hfz106_4
           try clear hfz106_5
           try clear hfz112_0
           try clear hfz112_1
           try clear hfz112_2
           try clear hfz112_3
           try clear hfz112_4
           try clear hfz112_5
           try clear hfz94_0
           try clear hfz94_1
           try clear hfz94_2
           try clear hfz94_3
           try clear hfz94_4
           try clear hfz94_5
           try clear hfz99_0
           try clear hfz99_1
           try clear hfz99_2
           try clear hfz99_3
           try clear hfz99_4
           try clear hfz99_5
           try clear hx528_0
           try clear hx528_1
           try clear hx528_2
           try clear hx528_3
           try clear p2
           try clear p528
           try clear q528
           obtain ⟨kq,x100_94,rfl,HA,HJ94,HO_474000,HO_486000,HO_499000,BK464,BK473,BK485,BK498,HB⟩:=hcut
           cases kq with
           | zero=>exact absurd HA.out (by simp [laws_FnQueue.j3])
           | succ kj94 =>
            have H:=HA.out
            clear HA
            simp only [laws_FnQueue.j3] at H
            by_cases c113:x100_94 = true
            ·subst c113
             have H1:(some false) = some r:=by rw [if_pos rfl] at H;exact H
             clear H
             have H:=H1
             clear H1
             exact absurd ((Option.some.inj H).trans HT_.out) (by decide)
            ·replace c113:=Bool.eq_false_iff.mpr c113
             subst c113
             have H1:(if t472 = 0 then (laws_FnQueue.l1 kj94 (([]:List (S25))) (wrap64 ((t465.length:Int) - 1)) t465 t468 t469 t470 t471 t472) else (some true)) = some r:=by rw [if_neg (show ¬ (false = true) by decide)] at H;exact H
             clear H
             have H:=H1
             clear H1
             by_cases c114:t472 = 0
             ·rw [if_pos c114] at H
              have c114b0:(t472 == 0) = true:=beq_iff_eq.mpr c114
              have c114b1:(t472 != 0) = false:=bne_eq_false_iff_eq.mpr c114
              clear c114
              obtain ⟨y538,hy538⟩:∃ y_:List (S25),y_ = (([]:List (S25))):=⟨_,rfl⟩
              replace H:(laws_FnQueue.l1 kj94 y538 (wrap64 ((t465.length:Int) - 1)) t465 t468 t469 t470 t471 t472) = some r:=by first|(rw [hy538];with_reducible exact H)|(have H2_:=(Option.bind_some _ _).symm.trans H;rw [hy538];with_reducible exact H2_)|(have H2_:=(Option.bind_some _ _).symm.trans H;with_reducible exact H2_)|with_reducible exact H|(rw [hy538];exact H)|exact H
              have Ny538:=Aside0.mk hy538
              clear hy538
              have H':=Aside0.mk H
              clear H
              have hnb115:=NB473_464.out
              have hnc115:=NB464_473.out
              have hnb116:=NB473_485.out
              have hnc116:=NB485_473.out
              have hnb117:=NB473_498.out
              have hnc117:=NB498_473.out
              have hcz118_0:wc.cell? ⟨gb473,0,none⟩ = some (.slice Ao19 t465.length co19):=(blk_cell BK473.out 0).trans rfl
              have hcz118_1:wc.cell? ⟨gb473,1,none⟩ = some (.int .i64 t468):=(blk_cell BK473.out 1).trans rfl
              have hcz118_2:wc.cell? ⟨gb473,2,none⟩ = some (.int .i64 t469):=(blk_cell BK473.out 2).trans rfl
              have hcz118_3:wc.cell? ⟨gb473,3,none⟩ = some (.int .i64 t470):=(blk_cell BK473.out 3).trans rfl
              have hcz118_4:wc.cell? ⟨gb473,4,none⟩ = some (.string t471):=(blk_cell BK473.out 4).trans rfl
              have hcz118_5:wc.cell? ⟨gb473,5,none⟩ = some (.int .i64 t472):=(blk_cell BK473.out 5).trans rfl
              have hfz118_0:=blk_frozen BK473.out 0
              have hfz118_1:=blk_frozen BK473.out 1
              have hfz118_2:=blk_frozen BK473.out 2
              have hfz118_3:=blk_frozen BK473.out 3
              have hfz118_4:=blk_frozen BK473.out 4
              have hfz118_5:=blk_frozen BK473.out 5
              go_wp2_with (first|((with_reducible refine gate_dst (N:=104) rfl ?_);(try (refine gate_guard (by rfl) ?_;dsimp only));refine Kd.R_lit k25 _ 25 ?hg (N:=104) ?hd (xs:=([]:List (S25))) (inner:=[]) (ok:=fun _=>True) (okp:=fun _=>True) ?hr ?hp (fun _ hk=>hk) trivial (Below.refl _ _) (Nat.le_refl _) (by simp) ?_;(case hd=>rfl);(case hg=>rfl);(case hr=>first|(go_simp;done)|(go_simp;rfl));(case hp=>exact (Reps.none _ _));intro v539 w119 ho120 hb hg_ hnew_;clear hg_ hnew_;(first|rw [← Ny538.out] at ho120|(simp only [Int.reduceToNat] at ho120;rw [← Ny538.out] at ho120));have n0_:=Aside0.mk (Kd.R_elder' (by (with_reducible repeat (first|apply Kd.R_alloc|apply Kd.R_drewN|apply Kd.R_drew));exact HO_474000.out) (Kd.R_base ho120) hb);have n1_:=Aside0.mk (Kd.R_elder' (by (with_reducible repeat (first|apply Kd.R_alloc|apply Kd.R_drewN|apply Kd.R_drew));exact HO_486000.out) (Kd.R_base ho120) hb);have n2_:=Aside0.mk (Kd.R_elder' (by (with_reducible repeat (first|apply Kd.R_alloc|apply Kd.R_drewN|apply Kd.R_drew));exact HO_499000.out) (Kd.R_base ho120) hb);have n3_:=Aside0.mk (Kd.R_lower (Kd.R_newB (Kd.R_new' (Kd.R_new' (Kd.R_new' ho120 (Kd.R_lt (by (with_reducible repeat (first|apply Kd.R_alloc|apply Kd.R_drewN|apply Kd.R_drew));exact HO_474000.out))) (Kd.R_lt (by (with_reducible repeat (first|apply Kd.R_alloc|apply Kd.R_drewN|apply Kd.R_drew));exact HO_486000.out))) (Kd.R_lt (by (with_reducible repeat (first|apply Kd.R_alloc|apply Kd.R_drewN|apply Kd.R_drew));exact HO_499000.out))) (g:=gb464) (o:=.cells #[.int .i64 t460,.int .i64 t461,.int .i64 t462,.string t463] 25 (0,0)) (by (with_reducible repeat (first|refine blk_drewN ?_ _|refine blk_drew ?_|refine blk_alloc ?_ _));exact BK464.out)) (below_size (by repeat (first|(with_reducible first|exact HB.out|apply below_alloc|apply pw_below_drewN|apply below_drew1|refine below_set ?_ GE464.out|refine below_set ?_ GE473.out|refine below_set ?_ GE485.out|refine below_set ?_ GE498.out)|exact HB.out))));have n4_:=Aside0.mk (blk_below (g:=gb464) (o:=.cells #[.int .i64 t460,.int .i64 t461,.int .i64 t462,.string t463] 25 (0,0)) (by (with_reducible repeat (first|refine blk_drewN ?_ _|refine blk_drew ?_|refine blk_alloc ?_ _));exact BK464.out) hb);have n5_:=Aside0.mk (blk_below (g:=gb473) (o:=.cells #[.slice Ao19 t465.length co19,.int .i64 t468,.int .i64 t469,.int .i64 t470,.string t471,.int .i64 t472] 29 (0,0)) (by (with_reducible repeat (first|refine blk_drewN ?_ _|refine blk_drew ?_|refine blk_alloc ?_ _));exact BK473.out) hb);have n6_:=Aside0.mk (blk_below (g:=gb485) (o:=.cells #[.slice Ao26 t477.length co26,.int .i64 t480,.int .i64 t481,.int .i64 t482,.string t483,.int .i64 t484] 29 (0,0)) (by (with_reducible repeat (first|refine blk_drewN ?_ _|refine blk_drew ?_|refine blk_alloc ?_ _));exact BK485.out) hb);have n7_:=Aside0.mk (blk_below (g:=gb498) (o:=.cells #[.slice Ao34 t490.length co34,.int .i64 t493,.int .i64 t494,.int .i64 t495,.string t496,.int .i64 t497] 29 (0,0)) (by (with_reducible repeat (first|refine blk_drewN ?_ _|refine blk_drew ?_|refine blk_alloc ?_ _));exact BK498.out) hb);have n8_:=Aside0.mk (below_step (by repeat (first|(with_reducible first|exact HB.out|apply below_alloc|apply pw_below_drewN|apply below_drew1|refine below_set ?_ GE464.out|refine below_set ?_ GE473.out|refine below_set ?_ GE485.out|refine below_set ?_ GE498.out)|exact HB.out)) hb);clear HO_474000;clear HO_486000;clear HO_499000;clear BK464;clear BK473;clear BK485;clear BK498;clear HB;have HO_474000:=n0_;have HO_486000:=n1_;have HO_499000:=n2_;have HO540:=n3_;have BK464:=n4_;have BK473:=n5_;have BK485:=n6_;have BK498:=n7_;have HB:=n8_;clear n0_ n1_ n2_ n3_ n4_ n5_ n6_ n7_ n8_;clear hb ho120;have hcz121_0:w119.cell? ⟨gb473,0,none⟩ = some (.slice Ao19 t465.length co19):=(blk_cell BK473.out 0).trans rfl;have hcz121_1:w119.cell? ⟨gb473,1,none⟩ = some (.int .i64 t468):=(blk_cell BK473.out 1).trans rfl;have hcz121_2:w119.cell? ⟨gb473,2,none⟩ = some (.int .i64 t469):=(blk_cell BK473.out 2).trans rfl;have hcz121_3:w119.cell? ⟨gb473,3,none⟩ = some (.int .i64 t470):=(blk_cell BK473.out 3).trans rfl;have hcz121_4:w119.cell? ⟨gb473,4,none⟩ = some (.string t471):=(blk_cell BK473.out 4).trans rfl;have hcz121_5:w119.cell? ⟨gb473,5,none⟩ = some (.int .i64 t472):=(blk_cell BK473.out 5).trans rfl;have hfz121_0:=blk_frozen BK473.out 0;have hfz121_1:=blk_frozen BK473.out 1;have hfz121_2:=blk_frozen BK473.out 2;have hfz121_3:=blk_frozen BK473.out 3;have hfz121_4:=blk_frozen BK473.out 4;have hfz121_5:=blk_frozen BK473.out 5))
              go_loopg [14,15] kj94 (fun kq v14 v15 w'=>∃ (x14_5:List (S25)) (x15_5:Int),v15 = .int .i64 x15_5∧Aside0 (laws_FnQueue.l1 kq x14_5 x15_5 t465 t468 t469 t470 t471 t472 = some r)∧Aside0 (kq≤kj94)∧Aside0 (Kd.R k25 25 w' w.heap.size (fun k_=>some k_≠((.slice Ao19 t465.length co19):Value).ownBlock∧some k_≠((.slice Ao26 t477.length co26):Value).ownBlock∧some k_≠((.slice Ao34 t490.length co34):Value).ownBlock∧k_≠gb464) v14 x14_5)∧Aside0 (Kd.R k25 25 w' w.heap.size (fun k_=>some k_≠(v14:Value).ownBlock∧some k_≠((.slice Ao26 t477.length co26):Value).ownBlock∧some k_≠((.slice Ao34 t490.length co34):Value).ownBlock∧k_≠gb464) (.slice Ao19 t465.length co19) t465)∧Aside0 (Kd.R k25 25 w' w.heap.size (fun k_=>some k_≠(v14:Value).ownBlock∧some k_≠((.slice Ao19 t465.length co19):Value).ownBlock∧some k_≠((.slice Ao34 t490.length co34):Value).ownBlock∧k_≠gb464) (.slice Ao26 t477.length co26) t477)∧Aside0 (Kd.R k25 25 w' w.heap.size (fun k_=>some k_≠(v14:Value).ownBlock∧some k_≠((.slice Ao19 t465.length co19):Value).ownBlock∧some k_≠((.slice Ao26 t477.length co26):Value).ownBlock∧k_≠gb464) (.slice Ao34 t490.length co34) t490)∧Aside0 (w'.heap[gb464]? = some (.cells #[.int .i64 t460,.int .i64 t461,.int .i64 t462,.string t463] 25 (0,0)))∧Aside0 (w'.heap[gb473]? = some (.cells #[(.slice Ao19 t465.length co19),.int .i64 t468,.int .i64 t469,.int .i64 t470,.string t471,.int .i64 t472] 29 (0,0)))∧Aside0 (w'.heap[gb485]? = some (.cells #[(.slice Ao26 t477.length co26),.int .i64 t480,.int .i64 t481,.int .i64 t482,.string t483,.int .i64 t484] 29 (0,0)))∧Aside0 (w'.heap[gb498]? = some (.cells #[(.slice Ao34 t490.length co34),.int .i64 t493,.int .i64 t494,.int .i64 t495,.string t496,.int .i64 t497] 29 (0,0)))∧Aside0 (Below w.heap.size w w'))
              case atStart=>exact ⟨(y538),(wrap64 ((t465.length:Int) - 1)),(by first|rfl|(simp;done)|(simp [*];done)),H',⟨Nat.le_refl _⟩,⟨by (with_reducible repeat (first|apply Kd.R_alloc|apply Kd.R_drewN|apply Kd.R_drew));exact Kd.R_mono HO540.out (fun _ hk=>⟨hk.1.1.1.2,⟨hk.1.1.2,⟨hk.1.2,hk.2⟩⟩⟩)⟩,⟨by (with_reducible repeat (first|apply Kd.R_alloc|apply Kd.R_drewN|apply Kd.R_drew));exact Kd.R_mono HO_474000.out (fun _ hk=>⟨hk.2,⟨hk.1.1,⟨hk.1.2.1,hk.1.2.2⟩⟩⟩)⟩,⟨by (with_reducible repeat (first|apply Kd.R_alloc|apply Kd.R_drewN|apply Kd.R_drew));exact Kd.R_mono HO_486000.out (fun _ hk=>⟨hk.2,⟨hk.1.1,⟨hk.1.2.1,hk.1.2.2⟩⟩⟩)⟩,⟨by (with_reducible repeat (first|apply Kd.R_alloc|apply Kd.R_drewN|apply Kd.R_drew));exact Kd.R_mono HO_499000.out (fun _ hk=>⟨hk.2,⟨hk.1.1,⟨hk.1.2.1,hk.1.2.2⟩⟩⟩)⟩,⟨by (with_reducible repeat (first|refine blk_drewN ?_ _|refine blk_drew ?_|refine blk_alloc ?_ _));exact BK464.out⟩,⟨by (with_reducible repeat (first|refine blk_drewN ?_ _|refine blk_drew ?_|refine blk_alloc ?_ _));exact BK473.out⟩,⟨by (with_reducible repeat (first|refine blk_drewN ?_ _|refine blk_drew ?_|refine blk_alloc ?_ _));exact BK485.out⟩,⟨by (with_reducible repeat (first|refine blk_drewN ?_ _|refine blk_drew ?_|refine blk_alloc ?_ _));exact BK498.out⟩,⟨by repeat (first|(with_reducible first|exact HB.out|apply below_alloc|apply pw_below_drewN|apply below_drew1|refine below_set ?_ GE464.out|refine below_set ?_ GE473.out|refine below_set ?_ GE485.out|refine below_set ?_ GE498.out)|exact HB.out)⟩⟩
              case round =>
               as_aux_lemma =>
               clear H'
               try clear c1
               try clear p2
               try clear c4
               try clear p5
               try clear q5
               try clear hx5
               try clear p6
               try clear c8
               try clear c9
               try clear c10
               try clear c11
               try clear c13
               try clear c14
               try clear c15
               try clear c41
               try clear p52
               try clear q52
               try clear hx52
               try clear p64
               try clear c87
               try clear c88
               try clear c88b0
               try clear c89
               try clear c89b0
               try clear c90
               try clear c90b0
               try clear c90b1
               try clear c91
               try clear c92
               try clear c93
               try clear c96
               try clear c97
               try clear c98
               try clear c100
               try clear c100b0
               try clear c100b1
               try clear c103
               try clear c104
               try clear c105
               try clear c109
               try clear c110
               try clear c111
               try clear c113
               try clear c114
               try clear c114b0
               try clear c114b1
               try clear c115
               try clear c116
               try clear c117
               try clear hcz106_0
               try clear hcz106_1
               try clear hcz106_2
               try clear hcz106_3
               try clear hcz106_4
               try clear hcz106_5
               try clear hcz112_0
               try clear hcz112_1
               try clear hcz112_2
               try clear hcz112_3
               try clear hcz112_4
               try clear hcz112_5
               try clear hcz118_0
               try clear hcz118_1
               try clear hcz118_2
               try clear hcz118_3
               try clear hcz118_4
               try clear hcz118_5
               try clear hcz121_0
               try clear hcz121_1
               try clear hcz121_2
               try clear hcz121_3
               try clear hcz121_4
               try clear hcz121_5
               try clear hcz94_0
               try clear hcz94_1
               try clear hcz94_2
               try clear hcz94_3
               try clear hcz94_4
               try clear hcz94_5
               try clear hcz99_0
               try clear hcz99_1
               try clear hcz99_2
               try clear hcz99_3
               try clear hcz99_4
               try clear hcz99_5
               try clear hfz106_0
               try clear hfz106_1
               try clear hfz106_2
               try clear hfz106_3
               try clear hfz106_4
               try clear hfz106_5
               try clear hfz112_0
               try clear hfz112_1
               try clear hfz112_2
               try clear hfz112_3
               try clear hfz112_4
               try clear hfz112_5
               try clear hfz118_0
               try clear hfz118_1
               try clear hfz118_2
               try clear hfz118_3
               try clear hfz118_4
               try clear hfz118_5
               try clear hfz121_0
               try clear hfz121_1
               try clear hfz121_2
               try clear hfz121_3
               try clear hfz121_4
               try clear hfz121_5
               try clear hfz94_0
               try clear hfz94_1
               try clear hfz94_2
               try clear hfz94_3
               try clear hfz94_4
               try clear hfz94_5
               try clear hfz99_0
               try clear hfz99_1
               try clear hfz99_2
               try clear hfz99_3
               try clear hfz99_4
               try clear hfz99_5
               try clear hx528_0
               try clear hx528_1
               try clear hx528_2
               try clear hx528_3
               try clear p2
               try clear p5
               try clear p52
               try clear p528
               try clear p6
               try clear p64
               try clear q5
               try clear q52
               try clear q528
               obtain ⟨x14_5,x15_5,rfl,HA,HK5,HO_14,HO_474000,HO_486000,HO_499000,BK464,BK473,BK485,BK498,HB⟩:=hrel
               cases gk with
               | zero=>exact absurd HA.out (by simp [laws_FnQueue.l1])
               | succ k5 =>
                have H:=HA.out
                clear HA
                simp only [laws_FnQueue.l1] at H
                by_cases c122:x15_5 ≥ 0
                ·rw [if_pos c122] at H
                 have c122b0:decide (0≤x15_5) = true:=decide_eq_true c122
                 clear c122
                 by_cases c123:0≤x15_5
                 ·rw [if_pos c123] at H
                  have c123b0:decide (0≤x15_5) = true:=decide_eq_true c123
                  clear c123
                  by_cases c124:x15_5 < (t465.length:Int)
                  ·rw [if_pos c124] at H
                   have c124b0:decide (x15_5 < (t465.length:Int)) = true:=decide_eq_true c124
                   clear c124
                   replace H:=Option.bind_eq_some_iff.mp H
                   obtain ⟨⟨t542,t545,t546,t547,t548,t549⟩,A1250,H⟩:=H
                   replace H:(laws_FnQueue.l1 k5 t542 (wrap64 (x15_5 - 1)) t465 t468 t469 t470 t471 t472) = some r:=H
                   have A125:=Aside0.mk A1250
                   clear A1250
                   have H':=Aside0.mk H
                   clear H
                   have hnb126:=NB473_464.out
                   have hnc126:=NB464_473.out
                   have hnb127:=NB473_485.out
                   have hnc127:=NB485_473.out
                   have hnb128:=NB473_498.out
                   have hnc128:=NB498_473.out
                   have hcz129_0:wr.cell? ⟨gb473,0,none⟩ = some (.slice Ao19 t465.length co19):=(blk_cell BK473.out 0).trans rfl
                   have hcz129_1:wr.cell? ⟨gb473,1,none⟩ = some (.int .i64 t468):=(blk_cell BK473.out 1).trans rfl
                   have hcz129_2:wr.cell? ⟨gb473,2,none⟩ = some (.int .i64 t469):=(blk_cell BK473.out 2).trans rfl
                   have hcz129_3:wr.cell? ⟨gb473,3,none⟩ = some (.int .i64 t470):=(blk_cell BK473.out 3).trans rfl
                   have hcz129_4:wr.cell? ⟨gb473,4,none⟩ = some (.string t471):=(blk_cell BK473.out 4).trans rfl
                   have hcz129_5:wr.cell? ⟨gb473,5,none⟩ = some (.int .i64 t472):=(blk_cell BK473.out 5).trans rfl
                   have hfz129_0:=blk_frozen BK473.out 0
                   have hfz129_1:=blk_frozen BK473.out 1
                   have hfz129_2:=blk_frozen BK473.out 2
                   have hfz129_3:=blk_frozen BK473.out 3
                   have hfz129_4:=blk_frozen BK473.out 4
                   have hfz129_5:=blk_frozen BK473.out 5
                   have p541:0≤(x15_5:Int):=of_decide_eq_true (by first|(with_reducible assumption)|assumption)
                   have q541:x15_5 < (t465.length:Int):=of_decide_eq_true (by first|(with_reducible assumption)|assumption)
                   obtain ⟨ad541,e541,hx541_0,hx541_1,hx541_2,hx541_3⟩:=at_T25 (Kd.R_reads' HO_474000.out).2.2 x15_5 p541 q541
                   cases e541
                   replace p541:=eq_true p541
                   replace q541:=eq_true q541
                   obtain ⟨Ao130,co130,eo130⟩:=Kd.R_slice HO_14.out
                   subst eo130
                   go_wp2_with (first|((with_reducible refine gate_callee (f:=8) rfl ?_);refine goesL_ (some 119) rfl rfl Try.func8 (by kernel_rfl) rfl #[.slice Ao130 x14_5.length co130,.agg #[.int .i64 ((rd_T25 t465 x15_5).f0),.int .i64 ((rd_T25 t465 x15_5).f1),.int .i64 ((rd_T25 t465 x15_5).f2),.string ((rd_T25 t465 x15_5).f3)]] rfl (by (try simp only [List.map_toArray,List.map_cons,List.map_nil]);first|done|rfl|(simp only [List.length_drop,List.length_take];rfl)) ?_;(with_reducible refine (impl_QueuePut.calls k5 _ _ x14_5 ((rd_T25 t465 x15_5).f0) ((rd_T25 t465 x15_5).f1) ((rd_T25 t465 x15_5).f2) ((rd_T25 t465 x15_5).f3) t542 t545 t546 t547 t548 t549 _ ?side1 ?side2 A125.out).mono ?_);(case side1=>repeat (first|exact (Kd.R_reads' HO_14.out).2.2|(with_reducible refine Kd.C_alloc ?_ _)|(with_reducible refine Kd.C_drewN ?_ _)|(with_reducible refine Kd.C_drew ?_)));(case side2=>exact (Kd.R_reads' HO_14.out).2.1);rintro e w131 ⟨v543,rfl,ho0,hb⟩;refine ⟨_,rfl,?_⟩;have n0_:=Aside0.mk (Kd.R_elder' (by (with_reducible repeat (first|apply Kd.R_alloc|apply Kd.R_drewN|apply Kd.R_drew));exact HO_14.out) (Kd.R_base ho0) hb);have n1_:=Aside0.mk (Kd.R_elder' (by (with_reducible repeat (first|apply Kd.R_alloc|apply Kd.R_drewN|apply Kd.R_drew));exact HO_474000.out) (Kd.R_base ho0) hb);have n2_:=Aside0.mk (Kd.R_elder' (by (with_reducible repeat (first|apply Kd.R_alloc|apply Kd.R_drewN|apply Kd.R_drew));exact HO_486000.out) (Kd.R_base ho0) hb);have n3_:=Aside0.mk (Kd.R_elder' (by (with_reducible repeat (first|apply Kd.R_alloc|apply Kd.R_drewN|apply Kd.R_drew));exact HO_499000.out) (Kd.R_base ho0) hb);have n4_:=Aside0.mk (Kd.R_lower (Kd.R_newB (Kd.R_new' (Kd.R_new' (Kd.R_new' (Kd.R_new' ho0 (Kd.R_lt (by (with_reducible repeat (first|apply Kd.R_alloc|apply Kd.R_drewN|apply Kd.R_drew));exact HO_14.out))) (Kd.R_lt (by (with_reducible repeat (first|apply Kd.R_alloc|apply Kd.R_drewN|apply Kd.R_drew));exact HO_474000.out))) (Kd.R_lt (by (with_reducible repeat (first|apply Kd.R_alloc|apply Kd.R_drewN|apply Kd.R_drew));exact HO_486000.out))) (Kd.R_lt (by (with_reducible repeat (first|apply Kd.R_alloc|apply Kd.R_drewN|apply Kd.R_drew));exact HO_499000.out))) (g:=gb464) (o:=.cells #[.int .i64 t460,.int .i64 t461,.int .i64 t462,.string t463] 25 (0,0)) (by (with_reducible repeat (first|refine blk_drewN ?_ _|refine blk_drew ?_|refine blk_alloc ?_ _));exact BK464.out)) (below_size (by repeat (first|(with_reducible first|exact HB.out|apply below_alloc|apply pw_below_drewN|apply below_drew1|refine below_set ?_ GE464.out|refine below_set ?_ GE473.out|refine below_set ?_ GE485.out|refine below_set ?_ GE498.out)|exact HB.out))));have n5_:=Aside0.mk (blk_below (g:=gb464) (o:=.cells #[.int .i64 t460,.int .i64 t461,.int .i64 t462,.string t463] 25 (0,0)) (by (with_reducible repeat (first|refine blk_drewN ?_ _|refine blk_drew ?_|refine blk_alloc ?_ _));exact BK464.out) hb);have n6_:=Aside0.mk (blk_below (g:=gb473) (o:=.cells #[.slice (some ad541) t465.length co19,.int .i64 t468,.int .i64 t469,.int .i64 t470,.string t471,.int .i64 t472] 29 (0,0)) (by (with_reducible repeat (first|refine blk_drewN ?_ _|refine blk_drew ?_|refine blk_alloc ?_ _));exact BK473.out) hb);have n7_:=Aside0.mk (blk_below (g:=gb485) (o:=.cells #[.slice Ao26 t477.length co26,.int .i64 t480,.int .i64 t481,.int .i64 t482,.string t483,.int .i64 t484] 29 (0,0)) (by (with_reducible repeat (first|refine blk_drewN ?_ _|refine blk_drew ?_|refine blk_alloc ?_ _));exact BK485.out) hb);have n8_:=Aside0.mk (blk_below (g:=gb498) (o:=.cells #[.slice Ao34 t490.length co34,.int .i64 t493,.int .i64 t494,.int .i64 t495,.string t496,.int .i64 t497] 29 (0,0)) (by (with_reducible repeat (first|refine blk_drewN ?_ _|refine blk_drew ?_|refine blk_alloc ?_ _));exact BK498.out) hb);have n9_:=Aside0.mk (below_step (by repeat (first|(with_reducible first|exact HB.out|apply below_alloc|apply pw_below_drewN|apply below_drew1|refine below_set ?_ GE464.out|refine below_set ?_ GE473.out|refine below_set ?_ GE485.out|refine below_set ?_ GE498.out)|exact HB.out)) hb);clear HO_14;clear HO_474000;clear HO_486000;clear HO_499000;clear BK464;clear BK473;clear BK485;clear BK498;clear HB;have HO_14:=n0_;have HO_474000:=n1_;have HO_486000:=n2_;have HO_499000:=n3_;have HO544:=n4_;have BK464:=n5_;have BK473:=n6_;have BK485:=n7_;have BK498:=n8_;have HB:=n9_;clear n0_ n1_ n2_ n3_ n4_ n5_ n6_ n7_ n8_ n9_;(try clear hb);(try clear hb2);(try clear hk);(try clear hi);(try clear ho0)))
                   go_roundg k5
                   case measure=>have:=HJ2.out;have:=HJ11.out;have:=HK3.out;have:=HJ94.out;have:=HK5.out;omega
                   case rel=>exact ⟨(t542),(wrap64 (x15_5 - 1)),(by first|rfl|(simp;done)|(simp [*];done)),H',⟨by have:=HJ2.out;have:=HJ11.out;have:=HK3.out;have:=HJ94.out;have:=HK5.out;omega⟩,⟨by (with_reducible repeat (first|apply Kd.R_alloc|apply Kd.R_drewN|apply Kd.R_drew));exact Kd.R_mono HO544.out (fun _ hk=>⟨hk.1.1.1.2,⟨hk.1.1.2,⟨hk.1.2,hk.2⟩⟩⟩)⟩,⟨by (with_reducible repeat (first|apply Kd.R_alloc|apply Kd.R_drewN|apply Kd.R_drew));exact Kd.R_mono HO_474000.out (fun _ hk=>⟨hk.2,⟨hk.1.2.1,⟨hk.1.2.2.1,hk.1.2.2.2⟩⟩⟩)⟩,⟨by (with_reducible repeat (first|apply Kd.R_alloc|apply Kd.R_drewN|apply Kd.R_drew));exact Kd.R_mono HO_486000.out (fun _ hk=>⟨hk.2,⟨hk.1.2.1,⟨hk.1.2.2.1,hk.1.2.2.2⟩⟩⟩)⟩,⟨by (with_reducible repeat (first|apply Kd.R_alloc|apply Kd.R_drewN|apply Kd.R_drew));exact Kd.R_mono HO_499000.out (fun _ hk=>⟨hk.2,⟨hk.1.2.1,⟨hk.1.2.2.1,hk.1.2.2.2⟩⟩⟩)⟩,⟨by (with_reducible repeat (first|refine blk_drewN ?_ _|refine blk_drew ?_|refine blk_alloc ?_ _));exact BK464.out⟩,⟨by (with_reducible repeat (first|refine blk_drewN ?_ _|refine blk_drew ?_|refine blk_alloc ?_ _));exact BK473.out⟩,⟨by (with_reducible repeat (first|refine blk_drewN ?_ _|refine blk_drew ?_|refine blk_alloc ?_ _));exact BK485.out⟩,⟨by (with_reducible repeat (first|refine blk_drewN ?_ _|refine blk_drew ?_|refine blk_alloc ?_ _));exact BK498.out⟩,⟨by repeat (first|(with_reducible first|exact HB.out|apply below_alloc|apply pw_below_drewN|apply below_drew1|refine below_set ?_ GE464.out|refine below_set ?_ GE473.out|refine below_set ?_ GE485.out|refine below_set ?_ GE498.out)|exact HB.out)⟩⟩
                  ·rw [if_neg c124] at H
                   exact absurd H (by simp)
                 ·rw [if_neg c123] at H
                  exact absurd H (by simp)
                ·rw [if_neg c122] at H
                 have c122b0:decide (0≤x15_5) = false:=decide_eq_false c122
                 clear c122
                 replace H:=Option.bind_eq_some_iff.mp H
                 obtain ⟨t550,A1320,H⟩:=H
                 replace H:(some t550) = some r:=H
                 have A132:=Aside0.mk A1320
                 clear A1320
                 obtain rfl:=Option.some.inj H
                 have hnb133:=NB473_464.out
                 have hnc133:=NB464_473.out
                 have hnb134:=NB473_485.out
                 have hnc134:=NB485_473.out
                 have hnb135:=NB473_498.out
                 have hnc135:=NB498_473.out
                 have hcz136_0:wr.cell? ⟨gb473,0,none⟩ = some (.slice Ao19 t465.length co19):=(blk_cell BK473.out 0).trans rfl
                 have hcz136_1:wr.cell? ⟨gb473,1,none⟩ = some (.int .i64 t468):=(blk_cell BK473.out 1).trans rfl
                 have hcz136_2:wr.cell? ⟨gb473,2,none⟩ = some (.int .i64 t469):=(blk_cell BK473.out 2).trans rfl
                 have hcz136_3:wr.cell? ⟨gb473,3,none⟩ = some (.int .i64 t470):=(blk_cell BK473.out 3).trans rfl
                 have hcz136_4:wr.cell? ⟨gb473,4,none⟩ = some (.string t471):=(blk_cell BK473.out 4).trans rfl
                 have hcz136_5:wr.cell? ⟨gb473,5,none⟩ = some (.int .i64 t472):=(blk_cell BK473.out 5).trans rfl
                 have hfz136_0:=blk_frozen BK473.out 0
                 have hfz136_1:=blk_frozen BK473.out 1
                 have hfz136_2:=blk_frozen BK473.out 2
                 have hfz136_3:=blk_frozen BK473.out 3
                 have hfz136_4:=blk_frozen BK473.out 4
                 have hfz136_5:=blk_frozen BK473.out 5
                 obtain ⟨Ao137,co137,eo137⟩:=Kd.R_slice HO_14.out
                 subst eo137
                 go_wp2_with (first|((with_reducible refine gate_callee (f:=19) rfl ?_);refine goesL_ (some 124) rfl rfl Try.func19 (by kernel_rfl) rfl #[.slice Ao137 x14_5.length co137,.slice Ao19 t465.length co19] rfl (by (try simp only [List.map_toArray,List.map_cons,List.map_nil]);first|done|rfl|(simp only [List.length_drop,List.length_take];rfl)) ?_;(with_reducible refine (laws_lwQueue.calls k5 _ _ x14_5 _ _ t465 t550 _ ?side1 ?side2 ?side3 ?side4 A132.out).mono ?_);(case side1=>repeat (first|exact (Kd.R_reads' HO_14.out).2.2|(with_reducible refine Kd.C_alloc ?_ _)|(with_reducible refine Kd.C_drewN ?_ _)|(with_reducible refine Kd.C_drew ?_)));(case side2=>exact (Kd.R_reads' HO_14.out).2.1);(case side3=>repeat (first|exact (Kd.R_reads' HO_474000.out).2.2|(with_reducible refine Kd.C_alloc ?_ _)|(with_reducible refine Kd.C_drewN ?_ _)|(with_reducible refine Kd.C_drew ?_)));(case side4=>exact (Kd.R_reads' HO_474000.out).2.1);rintro e w' ⟨rfl,⟨nd,rfl⟩⟩;refine ⟨_,rfl,?_⟩))
                 go_ret
                 exact ⟨by first|rfl|(simp [errW_none,errW_some] <;> rfl)|(simp [*,errW_none,errW_some] <;> rfl),by repeat (first|(with_reducible first|exact HB.out|apply below_alloc|apply pw_below_drewN|apply below_drew1|refine below_set ?_ GE464.out|refine below_set ?_ GE473.out|refine below_set ?_ GE485.out|refine below_set ?_ GE498.out)|exact HB.out)⟩
             ·rw [if_neg c114] at H
              have c114b0:(t472 == 0) = false:=beq_eq_false_iff_ne.mpr c114
              have c114b1:(t472 != 0) = true:=bne_iff_ne.mpr c114
              obtain rfl:=Option.some.inj H
              have hnb138:=NB473_464.out
              have hnc138:=NB464_473.out
              have hnb139:=NB473_485.out
              have hnc139:=NB485_473.out
              have hnb140:=NB473_498.out
              have hnc140:=NB498_473.out
              have hcz141_0:wc.cell? ⟨gb473,0,none⟩ = some (.slice Ao19 t465.length co19):=(blk_cell BK473.out 0).trans rfl
              have hcz141_1:wc.cell? ⟨gb473,1,none⟩ = some (.int .i64 t468):=(blk_cell BK473.out 1).trans rfl
              have hcz141_2:wc.cell? ⟨gb473,2,none⟩ = some (.int .i64 t469):=(blk_cell BK473.out 2).trans rfl
              have hcz141_3:wc.cell? ⟨gb473,3,none⟩ = some (.int .i64 t470):=(blk_cell BK473.out 3).trans rfl
              have hcz141_4:wc.cell? ⟨gb473,4,none⟩ = some (.string t471):=(blk_cell BK473.out 4).trans rfl
              have hcz141_5:wc.cell? ⟨gb473,5,none⟩ = some (.int .i64 t472):=(blk_cell BK473.out 5).trans rfl
              have hfz141_0:=blk_frozen BK473.out 0
              have hfz141_1:=blk_frozen BK473.out 1
              have hfz141_2:=blk_frozen BK473.out 2
              have hfz141_3:=blk_frozen BK473.out 3
              have hfz141_4:=blk_frozen BK473.out 4
              have hfz141_5:=blk_frozen BK473.out 5
              go_wp2
              go_ret
              exact ⟨by first|rfl|(simp [errW_none,errW_some] <;> rfl)|(simp [*,errW_none,errW_some] <;> rfl),by repeat (first|(with_reducible first|exact HB.out|apply below_alloc|apply pw_below_drewN|apply below_drew1|refine below_set ?_ GE464.out|refine below_set ?_ GE473.out|refine below_set ?_ GE485.out|refine below_set ?_ GE498.out)|exact HB.out)⟩
end Go.Proofs.Ytaiiikfeaokmhaa.PFnQueue
