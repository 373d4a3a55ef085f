import Derived.Test.YtaiiikfeaokmhaaPFnQueuex0
import Derived.Test.YtaiiikfeaokmhaaPFnQueuex3
import Derived.Test.YtaiiikfeaokmhaaPFnQueuex4
namespace Go.Proofs.Ytaiiikfeaokmhaa.PFnQueue
open Go.RowKit Go.Proofs.YtaiiikfeaokmhaaW.PrintWords Go.Proofs.YtaiiikfeaokmhaaW.PrintLast Go.Proofs.YtaiiikfeaokmhaaW.PrintMore
attribute [local go_sem] max2_int min2_int max_two min_two max_three min_three max_four min_four   -- for this text's walks alone
set_option linter.unusedVariables false
set_option linter.unusedSimpArgs false
def spec_QueueTake.f (k:Nat) (l0:List (S25)):Option ((List (S25))×Int×Int×Int×ByteArray×Int):=if (l0.length:Int) > 400 then ((spec_l03Ill.f 2).bind fun bt392=>(some (bt392.1,bt392.2.1,bt392.2.2.1,bt392.2.2.2.1,bt392.2.2.2.2.1,bt392.2.2.2.2.2))) else ((spec_QueueRight.f k l0).bind fun t400=>(if t400 = true then (if (l0.length:Int) = 0 then ((spec_l03Ill.f 6).bind fun bt401=>(some (bt401.1,bt401.2.1,bt401.2.2.1,bt401.2.2.2.1,bt401.2.2.2.2.1,bt401.2.2.2.2.2))) else ((some (([]:List (S25)):List (S25))).bind fun y409=>(if 1≤(l0.length:Int) then ((some (l0.drop 1:List (S25))).bind fun y412=>(if y409.length + y412.length < 3518437208883 then (if 0 < (l0.length:Int) then (some ((y409 ++ y412),(rd_T25 l0 0).f0,(rd_T25 l0 0).f1,(rd_T25 l0 0).f2,(rd_T25 l0 0).f3,0)) else (none)) else (none))) else (none)))) else ((spec_l03Ill.f 1).bind fun bt420=>(some (bt420.1,bt420.2.1,bt420.2.2.1,bt420.2.2.2.1,bt420.2.2.2.2.1,bt420.2.2.2.2.2)))))
def spec_QueueTake.T7:Bool×List (List Nat×List Nat):=(true,[([],[]),([],[]),([1],[1]),([0,2],[0,2]),([],[]),([4],[4]),([5],[5]),([3,6],[3,6]),([7,3,0,1,2,3,4,5,6,7],[7])])
def spec_QueueTake.B7:List Nat:=[0,0,2,7,0,16,48,127,255]
theorem spec_QueueTake.tab7:rtab .any (opsOf Try.f15 7) = spec_QueueTake.T7:=by kernel_rfl
theorem spec_QueueTake.bits7:waitsOk spec_QueueTake.T7.2 spec_QueueTake.B7 = true:=by kernel_rfl
set_option maxHeartbeats 8000000 in
set_option maxRecDepth 100000 in
theorem spec_QueueTake.calls (k:Nat) (A0:Option Addr) (c0:Nat) (l0:List (S25)) (r1:List (S25)) (r2:Int) (r3:Int) (r4:Int) (r5:ByteArray) (r6:Int) (w:World) (hr0:Kd.C k25 w A0 l0.length l0) (hc0:l0.length≤c0) (h:spec_QueueTake.f k l0 = some (r1,r2,r3,r4,r5,r6)) :
  Calls Try.prog 15 #[.slice A0 l0.length c0] w fun e w'=>∃ v0_:Value,e = .returned (.agg #[v0_,.int .i64 r2,.int .i64 r3,.int .i64 r4,.string r5,.int .i64 r6])∧Kd.R k25 25 w' w.heap.size (fun _=>True) v0_ r1∧Below w.heap.size w w':=by
 have hu29:=Try.underlying29
 have hu25:=Try.underlying25
 have HR0:=Aside0.mk hr0
 have HC0:=Aside0.mk hc0
 clear hr0 hc0
 have HB:=Aside0.mk (Below.refl w.heap.size w)
 have H:(if (l0.length:Int) > 400 then ((spec_l03Ill.f 2).bind fun bt392=>(some (bt392.1,bt392.2.1,bt392.2.2.1,bt392.2.2.2.1,bt392.2.2.2.2.1,bt392.2.2.2.2.2))) else ((spec_QueueRight.f k l0).bind fun t400=>(if t400 = true then (if (l0.length:Int) = 0 then ((spec_l03Ill.f 6).bind fun bt401=>(some (bt401.1,bt401.2.1,bt401.2.2.1,bt401.2.2.2.1,bt401.2.2.2.2.1,bt401.2.2.2.2.2))) else ((some (([]:List (S25)):List (S25))).bind fun y409=>(if 1≤(l0.length:Int) then ((some (l0.drop 1:List (S25))).bind fun y412=>(if y409.length + y412.length < 3518437208883 then (if 0 < (l0.length:Int) then (some ((y409 ++ y412),(rd_T25 l0 0).f0,(rd_T25 l0 0).f1,(rd_T25 l0 0).f2,(rd_T25 l0 0).f3,0)) else (none)) else (none))) else (none)))) else ((spec_l03Ill.f 1).bind fun bt420=>(some (bt420.1,bt420.2.1,bt420.2.2.1,bt420.2.2.2.1,bt420.2.2.2.2.1,bt420.2.2.2.2.2)))))) = some (r1,r2,r3,r4,r5,r6):=h
 clear h
 by_cases c2:(l0.length:Int) > 400
 ·rw [if_pos c2] at H
  have c2b0:decide (400 < (l0.length:Int)) = true:=decide_eq_true c2
  have c2b1:decide (400 < l0.length) = true:=decide_eq_true (by omega)
  clear c2
  replace H:=Option.bind_eq_some_iff.mp H
  obtain ⟨⟨t392,t395,t396,t397,t398,t399⟩,A30,H⟩:=H
  replace H:(some (t392,t395,t396,t397,t398,t399)) = some (r1,r2,r3,r4,r5,r6):=H
  have A3:=Aside0.mk A30
  clear A30
  simp only [Option.some.injEq,Prod.mk.injEq] at H
  obtain ⟨rfl,rfl,rfl,rfl,rfl,rfl⟩:=H
  go_enter Try.func15,Try.ntmps15
  go_wp2_with (first|((with_reducible refine gate_dst (N:=2) rfl ?_);refine box_event ?hg (N:=2) ?hd (cs:=#[.slice none 0 0,.int .i64 0,.int .i64 0,.int .i64 0,.string (⟨#[]⟩:ByteArray),.int .i64 0]) (t:=29) ?hr ?_;(case hd=>rfl);(case hg=>rfl);(case hr=>first|(go_simp;done)|(go_simp;rfl));intro gb391 hg w4 hbox hb;have n0_:=Aside0.mk (below_step (by repeat (first|(with_reducible first|exact HB.out|apply below_alloc|apply pw_below_drewN|apply below_drew1)|exact HB.out)) hb);have n1_:=Aside0.mk (hbox);have n2_:=Aside0.mk ((by rw [hg];exact (below_size (by repeat (first|(with_reducible first|exact HB.out|apply below_alloc|apply pw_below_drewN|apply below_drew1)|exact HB.out))):w.heap.size≤gb391));have n3_:=Aside0.mk ((by rw [hg];exact (below_size (by repeat (first|(with_reducible first|exact HB.out|apply below_alloc|apply pw_below_drewN|apply below_drew1)|exact HB.out))):w.heap.size≤gb391));clear HB;have HB:=n0_;have BK391:=n1_;have GW391:=n2_;have GE391:=n3_;clear n0_ n1_ n2_ n3_;clear hb hbox hg)|((with_reducible refine gate_callee (f:=73) rfl ?_);refine goesL_ (some 6) rfl rfl Try.func73 (by kernel_rfl) rfl #[.int .i64 2] rfl (by (try simp only [List.map_toArray,List.map_cons,List.map_nil]);first|done|rfl|(simp only [List.length_drop,List.length_take];rfl)) ?_;(with_reducible refine (spec_l03Ill.calls 2 t392 t395 t396 t397 t398 t399 _ A3.out).mono ?_);rintro e w5 ⟨v393,rfl,ho0,hb⟩;refine ⟨_,rfl,?_⟩;have n0_:=Aside0.mk (Kd.R_lower ho0 (below_size (by repeat (first|(with_reducible first|exact HB.out|apply below_alloc|apply pw_below_drewN|apply below_drew1|refine below_set ?_ GE391.out)|exact HB.out))));have n1_:=Aside0.mk (blk_below (g:=gb391) (o:=.cells #[.slice none 0 0,.int .i64 0,.int .i64 0,.int .i64 0,.string (⟨#[]⟩:ByteArray),.int .i64 0] 29 (0,0)) (by (with_reducible repeat (first|refine blk_drewN ?_ _|refine blk_drew ?_|refine blk_alloc ?_ _));exact BK391.out) hb);have n2_:=Aside0.mk (below_step (by repeat (first|(with_reducible first|exact HB.out|apply below_alloc|apply pw_below_drewN|apply below_drew1|refine below_set ?_ GE391.out)|exact HB.out)) hb);clear BK391;clear HB;have HO394:=n0_;have BK391:=n1_;have HB:=n2_;clear n0_ n1_ n2_;(try clear hb);(try clear hb2);(try clear hk);(try clear hi);(try clear ho0);obtain ⟨Ao6,co6,eo6⟩:=Kd.R_slice HO394.out;subst eo6;have hcz7_0:w5.cell? ⟨gb391,0,none⟩ = some (.slice none 0 0):=(blk_cell BK391.out 0).trans rfl;have hcz7_1:w5.cell? ⟨gb391,1,none⟩ = some (.int .i64 0):=(blk_cell BK391.out 1).trans rfl;have hcz7_2:w5.cell? ⟨gb391,2,none⟩ = some (.int .i64 0):=(blk_cell BK391.out 2).trans rfl;have hcz7_3:w5.cell? ⟨gb391,3,none⟩ = some (.int .i64 0):=(blk_cell BK391.out 3).trans rfl;have hcz7_4:w5.cell? ⟨gb391,4,none⟩ = some (.string (⟨#[]⟩:ByteArray)):=(blk_cell BK391.out 4).trans rfl;have hcz7_5:w5.cell? ⟨gb391,5,none⟩ = some (.int .i64 0):=(blk_cell BK391.out 5).trans rfl;have hfz7_0:=blk_frozen BK391.out 0;have hfz7_1:=blk_frozen BK391.out 1;have hfz7_2:=blk_frozen BK391.out 2;have hfz7_3:=blk_frozen BK391.out 3;have hfz7_4:=blk_frozen BK391.out 4;have hfz7_5:=blk_frozen BK391.out 5))
  refine bodyPost_ret (results_cell_row rfl _ _ gb391 29 #[.slice Ao6 t392.length co6,.int .i64 t395,.int .i64 t396,.int .i64 t397,.string t398,.int .i64 t399] (0,0) _ rfl (by (with_reducible repeat (first|refine blk_drewN ?_ _|refine blk_drew ?_|refine blk_alloc ?_ _));refine blk_put (cs:=#[.slice Ao6 t392.length co6,.int .i64 t395,.int .i64 t396,.int .i64 t397,.string t398,.int .i64 0]) ?_ 5 _ rfl;(with_reducible repeat (first|refine blk_drewN ?_ _|refine blk_drew ?_|refine blk_alloc ?_ _));refine blk_put (cs:=#[.slice Ao6 t392.length co6,.int .i64 t395,.int .i64 t396,.int .i64 t397,.string (⟨#[]⟩:ByteArray),.int .i64 0]) ?_ 4 _ rfl;(with_reducible repeat (first|refine blk_drewN ?_ _|refine blk_drew ?_|refine blk_alloc ?_ _));refine blk_put (cs:=#[.slice Ao6 t392.length co6,.int .i64 t395,.int .i64 t396,.int .i64 0,.string (⟨#[]⟩:ByteArray),.int .i64 0]) ?_ 3 _ rfl;(with_reducible repeat (first|refine blk_drewN ?_ _|refine blk_drew ?_|refine blk_alloc ?_ _));refine blk_put (cs:=#[.slice Ao6 t392.length co6,.int .i64 t395,.int .i64 0,.int .i64 0,.string (⟨#[]⟩:ByteArray),.int .i64 0]) ?_ 2 _ rfl;(with_reducible repeat (first|refine blk_drewN ?_ _|refine blk_drew ?_|refine blk_alloc ?_ _));refine blk_put (cs:=#[.slice Ao6 t392.length co6,.int .i64 0,.int .i64 0,.int .i64 0,.string (⟨#[]⟩:ByteArray),.int .i64 0]) ?_ 1 _ rfl;(with_reducible repeat (first|refine blk_drewN ?_ _|refine blk_drew ?_|refine blk_alloc ?_ _));refine blk_put (cs:=#[.slice none 0 0,.int .i64 0,.int .i64 0,.int .i64 0,.string (⟨#[]⟩:ByteArray),.int .i64 0]) ?_ 0 _ rfl;(with_reducible repeat (first|refine blk_drewN ?_ _|refine blk_drew ?_|refine blk_alloc ?_ _));exact BK391.out) Try.underlying29 rfl (by kernel_rfl)) rfl ?_
  exact ⟨_,by first|rfl|(simp [errW_none,errW_some] <;> rfl)|(simp [*,errW_none,errW_some] <;> rfl),by (with_reducible repeat (first|apply Kd.R_alloc|apply Kd.R_drewN|apply Kd.R_drew));exact Kd.R_mono (Kd.R_far (p:=⟨gb391,5,none⟩) (Kd.R_far (p:=⟨gb391,4,none⟩) (Kd.R_far (p:=⟨gb391,3,none⟩) (Kd.R_far (p:=⟨gb391,2,none⟩) (Kd.R_far (p:=⟨gb391,1,none⟩) (Kd.R_far (p:=⟨gb391,0,none⟩) (Kd.R_types HO394.out BK391.out (by decide)) (fun _ hk=>hk.2) (.slice Ao6 t392.length co6)) (fun _ hk=>hk.2) (.int .i64 t395)) (fun _ hk=>hk.2) (.int .i64 t396)) (fun _ hk=>hk.2) (.int .i64 t397)) (fun _ hk=>hk.2) (.string t398)) (fun _ hk=>hk.2) (.int .i64 t399)) (fun _ hk=>trivial),by repeat (first|(with_reducible first|exact HB.out|apply below_alloc|apply pw_below_drewN|apply below_drew1|refine below_set ?_ GE391.out)|exact HB.out)⟩
 ·rw [if_neg c2] at H
  have c2b0:decide (400 < (l0.length:Int)) = false:=decide_eq_false c2
  have c2b1:decide (400 < l0.length) = false:=decide_eq_false (by omega)
  clear c2
  replace H:=Option.bind_eq_some_iff.mp H
  obtain ⟨t400,A80,H⟩:=H
  replace H:(if t400 = true then (if (l0.length:Int) = 0 then ((spec_l03Ill.f 6).bind fun bt401=>(some (bt401.1,bt401.2.1,bt401.2.2.1,bt401.2.2.2.1,bt401.2.2.2.2.1,bt401.2.2.2.2.2))) else ((some (([]:List (S25)):List (S25))).bind fun y409=>(if 1≤(l0.length:Int) then ((some (l0.drop 1:List (S25))).bind fun y412=>(if y409.length + y412.length < 3518437208883 then (if 0 < (l0.length:Int) then (some ((y409 ++ y412),(rd_T25 l0 0).f0,(rd_T25 l0 0).f1,(rd_T25 l0 0).f2,(rd_T25 l0 0).f3,0)) else (none)) else (none))) else (none)))) else ((spec_l03Ill.f 1).bind fun bt420=>(some (bt420.1,bt420.2.1,bt420.2.2.1,bt420.2.2.2.1,bt420.2.2.2.2.1,bt420.2.2.2.2.2)))) = some (r1,r2,r3,r4,r5,r6):=H
  have A8:=Aside0.mk A80
  clear A80
  by_cases c9:t400 = true
  ·subst c9
   have H1:(if (l0.length:Int) = 0 then ((spec_l03Ill.f 6).bind fun bt401=>(some (bt401.1,bt401.2.1,bt401.2.2.1,bt401.2.2.2.1,bt401.2.2.2.2.1,bt401.2.2.2.2.2))) else ((some (([]:List (S25)):List (S25))).bind fun y409=>(if 1≤(l0.length:Int) then ((some (l0.drop 1:List (S25))).bind fun y412=>(if y409.length + y412.length < 3518437208883 then (if 0 < (l0.length:Int) then (some ((y409 ++ y412),(rd_T25 l0 0).f0,(rd_T25 l0 0).f1,(rd_T25 l0 0).f2,(rd_T25 l0 0).f3,0)) else (none)) else (none))) else (none)))) = some (r1,r2,r3,r4,r5,r6):=by rw [if_pos rfl] at H;exact H
   clear H
   have H:=H1
   clear H1
   by_cases c10:(l0.length:Int) = 0
   ·rw [if_pos c10] at H
    have c10b0:((l0.length:Int) == 0) = true:=beq_iff_eq.mpr c10
    have c10b1:((l0.length:Int) != 0) = false:=bne_eq_false_iff_eq.mpr c10
    clear c10
    replace H:=Option.bind_eq_some_iff.mp H
    obtain ⟨⟨t401,t404,t405,t406,t407,t408⟩,A110,H⟩:=H
    replace H:(some (t401,t404,t405,t406,t407,t408)) = some (r1,r2,r3,r4,r5,r6):=H
    have A11:=Aside0.mk A110
    clear A110
    simp only [Option.some.injEq,Prod.mk.injEq] at H
    obtain ⟨rfl,rfl,rfl,rfl,rfl,rfl⟩:=H
    go_enter Try.func15,Try.ntmps15
    go_wp2_with (first|((with_reducible refine gate_dst (N:=2) rfl ?_);refine box_event ?hg (N:=2) ?hd (cs:=#[.slice none 0 0,.int .i64 0,.int .i64 0,.int .i64 0,.string (⟨#[]⟩:ByteArray),.int .i64 0]) (t:=29) ?hr ?_;(case hd=>rfl);(case hg=>rfl);(case hr=>first|(go_simp;done)|(go_simp;rfl));intro gb391 hg w12 hbox hb;have n0_:=Aside0.mk (below_step (by repeat (first|(with_reducible first|exact HB.out|apply below_alloc|apply pw_below_drewN|apply below_drew1)|exact HB.out)) hb);have n1_:=Aside0.mk (hbox);have n2_:=Aside0.mk ((by rw [hg];exact (below_size (by repeat (first|(with_reducible first|exact HB.out|apply below_alloc|apply pw_below_drewN|apply below_drew1)|exact HB.out))):w.heap.size≤gb391));have n3_:=Aside0.mk ((by rw [hg];exact (below_size (by repeat (first|(with_reducible first|exact HB.out|apply below_alloc|apply pw_below_drewN|apply below_drew1)|exact HB.out))):w.heap.size≤gb391));clear HB;have HB:=n0_;have BK391:=n1_;have GW391:=n2_;have GE391:=n3_;clear n0_ n1_ n2_ n3_;clear hb hbox hg)|((with_reducible refine gate_callee (f:=18) rfl ?_);refine goesL_ (some 8) rfl rfl Try.func18 (by kernel_rfl) rfl #[.slice A0 l0.length c0] rfl (by (try simp only [List.map_toArray,List.map_cons,List.map_nil]);first|done|rfl|(simp only [List.length_drop,List.length_take];rfl)) ?_;(with_reducible refine (spec_QueueRight.calls k _ _ l0 true _ ?side1 ?side2 A8.out).mono ?_);(case side1=>repeat (first|exact (Kd.C_below HR0.out HB.out)|(with_reducible refine Kd.C_alloc ?_ _)|(with_reducible refine Kd.C_drewN ?_ _)|(with_reducible refine Kd.C_drew ?_)));(case side2=>exact HC0.out);rintro e w13 ⟨rfl,hb⟩;refine ⟨_,rfl,?_⟩;have n0_:=Aside0.mk (blk_below (g:=gb391) (o:=.cells #[.slice none 0 0,.int .i64 0,.int .i64 0,.int .i64 0,.string (⟨#[]⟩:ByteArray),.int .i64 0] 29 (0,0)) (by (with_reducible repeat (first|refine blk_drewN ?_ _|refine blk_drew ?_|refine blk_alloc ?_ _));exact BK391.out) hb);have n1_:=Aside0.mk (below_step (by repeat (first|(with_reducible first|exact HB.out|apply below_alloc|apply pw_below_drewN|apply below_drew1|refine below_set ?_ GE391.out)|exact HB.out)) hb);clear BK391;clear HB;have BK391:=n0_;have HB:=n1_;clear n0_ n1_;(try clear hb);(try clear hb2);(try clear hk);(try clear hi))|((with_reducible refine gate_callee (f:=73) rfl ?_);refine goesL_ (some 14) rfl rfl Try.func73 (by kernel_rfl) rfl #[.int .i64 6] rfl (by (try simp only [List.map_toArray,List.map_cons,List.map_nil]);first|done|rfl|(simp only [List.length_drop,List.length_take];rfl)) ?_;(with_reducible refine (spec_l03Ill.calls 6 t401 t404 t405 t406 t407 t408 _ A11.out).mono ?_);rintro e w14 ⟨v402,rfl,ho0,hb⟩;refine ⟨_,rfl,?_⟩;have n0_:=Aside0.mk (Kd.R_lower ho0 (below_size (by repeat (first|(with_reducible first|exact HB.out|apply below_alloc|apply pw_below_drewN|apply below_drew1|refine below_set ?_ GE391.out)|exact HB.out))));have n1_:=Aside0.mk (blk_below (g:=gb391) (o:=.cells #[.slice none 0 0,.int .i64 0,.int .i64 0,.int .i64 0,.string (⟨#[]⟩:ByteArray),.int .i64 0] 29 (0,0)) (by (with_reducible repeat (first|refine blk_drewN ?_ _|refine blk_drew ?_|refine blk_alloc ?_ _));exact BK391.out) hb);have n2_:=Aside0.mk (below_step (by repeat (first|(with_reducible first|exact HB.out|apply below_alloc|apply pw_below_drewN|apply below_drew1|refine below_set ?_ GE391.out)|exact HB.out)) hb);clear BK391;clear HB;have HO403:=n0_;have BK391:=n1_;have HB:=n2_;clear n0_ n1_ n2_;(try clear hb);(try clear hb2);(try clear hk);(try clear hi);(try clear ho0);obtain ⟨Ao15,co15,eo15⟩:=Kd.R_slice HO403.out;subst eo15;have hcz16_0:w14.cell? ⟨gb391,0,none⟩ = some (.slice none 0 0):=(blk_cell BK391.out 0).trans rfl;have hcz16_1:w14.cell? ⟨gb391,1,none⟩ = some (.int .i64 0):=(blk_cell BK391.out 1).trans rfl;have hcz16_2:w14.cell? ⟨gb391,2,none⟩ = some (.int .i64 0):=(blk_cell BK391.out 2).trans rfl;have hcz16_3:w14.cell? ⟨gb391,3,none⟩ = some (.int .i64 0):=(blk_cell BK391.out 3).trans rfl;have hcz16_4:w14.cell? ⟨gb391,4,none⟩ = some (.string (⟨#[]⟩:ByteArray)):=(blk_cell BK391.out 4).trans rfl;have hcz16_5:w14.cell? ⟨gb391,5,none⟩ = some (.int .i64 0):=(blk_cell BK391.out 5).trans rfl;have hfz16_0:=blk_frozen BK391.out 0;have hfz16_1:=blk_frozen BK391.out 1;have hfz16_2:=blk_frozen BK391.out 2;have hfz16_3:=blk_frozen BK391.out 3;have hfz16_4:=blk_frozen BK391.out 4;have hfz16_5:=blk_frozen BK391.out 5))
    refine bodyPost_ret (results_cell_row rfl _ _ gb391 29 #[.slice Ao15 t401.length co15,.int .i64 t404,.int .i64 t405,.int .i64 t406,.string t407,.int .i64 t408] (0,0) _ rfl (by (with_reducible repeat (first|refine blk_drewN ?_ _|refine blk_drew ?_|refine blk_alloc ?_ _));refine blk_put (cs:=#[.slice Ao15 t401.length co15,.int .i64 t404,.int .i64 t405,.int .i64 t406,.string t407,.int .i64 0]) ?_ 5 _ rfl;(with_reducible repeat (first|refine blk_drewN ?_ _|refine blk_drew ?_|refine blk_alloc ?_ _));refine blk_put (cs:=#[.slice Ao15 t401.length co15,.int .i64 t404,.int .i64 t405,.int .i64 t406,.string (⟨#[]⟩:ByteArray),.int .i64 0]) ?_ 4 _ rfl;(with_reducible repeat (first|refine blk_drewN ?_ _|refine blk_drew ?_|refine blk_alloc ?_ _));refine blk_put (cs:=#[.slice Ao15 t401.length co15,.int .i64 t404,.int .i64 t405,.int .i64 0,.string (⟨#[]⟩:ByteArray),.int .i64 0]) ?_ 3 _ rfl;(with_reducible repeat (first|refine blk_drewN ?_ _|refine blk_drew ?_|refine blk_alloc ?_ _));refine blk_put (cs:=#[.slice Ao15 t401.length co15,.int .i64 t404,.int .i64 0,.int .i64 0,.string (⟨#[]⟩:ByteArray),.int .i64 0]) ?_ 2 _ rfl;(with_reducible repeat (first|refine blk_drewN ?_ _|refine blk_drew ?_|refine blk_alloc ?_ _));refine blk_put (cs:=#[.slice Ao15 t401.length co15,.int .i64 0,.int .i64 0,.int .i64 0,.string (⟨#[]⟩:ByteArray),.int .i64 0]) ?_ 1 _ rfl;(with_reducible repeat (first|refine blk_drewN ?_ _|refine blk_drew ?_|refine blk_alloc ?_ _));refine blk_put (cs:=#[.slice none 0 0,.int .i64 0,.int .i64 0,.int .i64 0,.string (⟨#[]⟩:ByteArray),.int .i64 0]) ?_ 0 _ rfl;(with_reducible repeat (first|refine blk_drewN ?_ _|refine blk_drew ?_|refine blk_alloc ?_ _));exact BK391.out) Try.underlying29 rfl (by kernel_rfl)) rfl ?_
    exact ⟨_,by first|rfl|(simp [errW_none,errW_some] <;> rfl)|(simp [*,errW_none,errW_some] <;> rfl),by (with_reducible repeat (first|apply Kd.R_alloc|apply Kd.R_drewN|apply Kd.R_drew));exact Kd.R_mono (Kd.R_far (p:=⟨gb391,5,none⟩) (Kd.R_far (p:=⟨gb391,4,none⟩) (Kd.R_far (p:=⟨gb391,3,none⟩) (Kd.R_far (p:=⟨gb391,2,none⟩) (Kd.R_far (p:=⟨gb391,1,none⟩) (Kd.R_far (p:=⟨gb391,0,none⟩) (Kd.R_types HO403.out BK391.out (by decide)) (fun _ hk=>hk.2) (.slice Ao15 t401.length co15)) (fun _ hk=>hk.2) (.int .i64 t404)) (fun _ hk=>hk.2) (.int .i64 t405)) (fun _ hk=>hk.2) (.int .i64 t406)) (fun _ hk=>hk.2) (.string t407)) (fun _ hk=>hk.2) (.int .i64 t408)) (fun _ hk=>trivial),by repeat (first|(with_reducible first|exact HB.out|apply below_alloc|apply pw_below_drewN|apply below_drew1|refine below_set ?_ GE391.out)|exact HB.out)⟩
   ·rw [if_neg c10] at H
    have c10b0:((l0.length:Int) == 0) = false:=beq_eq_false_iff_ne.mpr c10
    have c10b1:((l0.length:Int) != 0) = true:=bne_iff_ne.mpr c10
    have c10b2:¬ (l0 = []):=fun h_=>c10 (by rw [h_];rfl)
    obtain ⟨y409,hy409⟩:∃ y_:List (S25),y_ = (([]:List (S25))):=⟨_,rfl⟩
    replace H:(if 1≤(l0.length:Int) then ((some (l0.drop 1:List (S25))).bind fun y412=>(if y409.length + y412.length < 3518437208883 then (if 0 < (l0.length:Int) then (some ((y409 ++ y412),(rd_T25 l0 0).f0,(rd_T25 l0 0).f1,(rd_T25 l0 0).f2,(rd_T25 l0 0).f3,0)) else (none)) else (none))) else (none)) = some (r1,r2,r3,r4,r5,r6):=by first|(rw [hy409];with_reducible exact H)|(have H2_:=(Option.bind_some _ _).symm.trans H;rw [hy409];with_reducible exact H2_)|(have H2_:=(Option.bind_some _ _).symm.trans H;with_reducible exact H2_)|with_reducible exact H|(rw [hy409];exact H)|exact H
    have Ny409:=Aside0.mk hy409
    clear hy409
    by_cases c17:1≤(l0.length:Int)
    ·rw [if_pos c17] at H
     have c17b0:=eq_true c17
     have c17b1:decide (1≤(l0.length:Int)) = true:=decide_eq_true c17
     clear c17
     obtain ⟨y412,hy412⟩:∃ y_:List (S25),y_ = (l0.drop 1):=⟨_,rfl⟩
     replace H:(if y409.length + y412.length < 3518437208883 then (if 0 < (l0.length:Int) then (some ((y409 ++ y412),(rd_T25 l0 0).f0,(rd_T25 l0 0).f1,(rd_T25 l0 0).f2,(rd_T25 l0 0).f3,0)) else (none)) else (none)) = some (r1,r2,r3,r4,r5,r6):=by first|(rw [hy412];with_reducible exact H)|(have H2_:=(Option.bind_some _ _).symm.trans H;rw [hy412];with_reducible exact H2_)|(have H2_:=(Option.bind_some _ _).symm.trans H;with_reducible exact H2_)|with_reducible exact H|(rw [hy412];exact H)|exact H
     have Ny412:=Aside0.mk hy412
     clear hy412
     by_cases c18:y409.length + y412.length < 3518437208883
     ·rw [if_pos c18] at H
      have LMc18:=Aside0.mk c18
      clear c18
      obtain ⟨y416,hy416⟩:∃ y_:List (S25),y_ = (y409 ++ y412):=⟨_,rfl⟩
      replace H:(if 0 < (l0.length:Int) then (some (y416,(rd_T25 l0 0).f0,(rd_T25 l0 0).f1,(rd_T25 l0 0).f2,(rd_T25 l0 0).f3,0)) else (none)) = some (r1,r2,r3,r4,r5,r6):=by first|(rw [hy416];with_reducible exact H)|(have H2_:=(Option.bind_some _ _).symm.trans H;rw [hy416];with_reducible exact H2_)|(have H2_:=(Option.bind_some _ _).symm.trans H;with_reducible exact H2_)|with_reducible exact H|(rw [hy416];exact H)|exact H
      have Ny416:=Aside0.mk hy416
      clear hy416
      by_cases c19:0 < (l0.length:Int)
      ·rw [if_pos c19] at H
       have c19b0:decide (0 < (l0.length:Int)) = true:=decide_eq_true c19
       have c19b1:decide (0 < l0.length) = true:=decide_eq_true (by omega)
       clear c19
       simp only [Option.some.injEq,Prod.mk.injEq] at H
       obtain ⟨rfl,rfl,rfl,rfl,rfl,rfl⟩:=H
       go_enter Try.func15,Try.ntmps15
       try go_wp2_with (first|((with_reducible refine gate_dst (N:=2) rfl ?_);refine box_event ?hg (N:=2) ?hd (cs:=#[.slice none 0 0,.int .i64 0,.int .i64 0,.int .i64 0,.string (⟨#[]⟩:ByteArray),.int .i64 0]) (t:=29) ?hr ?_;(case hd=>rfl);(case hg=>rfl);(case hr=>first|(go_simp;done)|(go_simp;rfl));intro gb391 hg w20 hbox hb;have n0_:=Aside0.mk (below_step (by repeat (first|(with_reducible first|exact HB.out|apply below_alloc|apply pw_below_drewN|apply below_drew1)|exact HB.out)) hb);have n1_:=Aside0.mk (hbox);have n2_:=Aside0.mk ((by rw [hg];exact (below_size (by repeat (first|(with_reducible first|exact HB.out|apply below_alloc|apply pw_below_drewN|apply below_drew1)|exact HB.out))):w.heap.size≤gb391));have n3_:=Aside0.mk ((by rw [hg];exact (below_size (by repeat (first|(with_reducible first|exact HB.out|apply below_alloc|apply pw_below_drewN|apply below_drew1)|exact HB.out))):w.heap.size≤gb391));clear HB;have HB:=n0_;have BK391:=n1_;have GW391:=n2_;have GE391:=n3_;clear n0_ n1_ n2_ n3_;clear hb hbox hg)|((with_reducible refine gate_callee (f:=18) rfl ?_);refine goesL_ (some 8) rfl rfl Try.func18 (by kernel_rfl) rfl #[.slice A0 l0.length c0] rfl (by (try simp only [List.map_toArray,List.map_cons,List.map_nil]);first|done|rfl|(simp only [List.length_drop,List.length_take];rfl)) ?_;(with_reducible refine (spec_QueueRight.calls k _ _ l0 true _ ?side1 ?side2 A8.out).mono ?_);(case side1=>repeat (first|exact (Kd.C_below HR0.out HB.out)|(with_reducible refine Kd.C_alloc ?_ _)|(with_reducible refine Kd.C_drewN ?_ _)|(with_reducible refine Kd.C_drew ?_)));(case side2=>exact HC0.out);rintro e w21 ⟨rfl,hb⟩;refine ⟨_,rfl,?_⟩;have n0_:=Aside0.mk (blk_below (g:=gb391) (o:=.cells #[.slice none 0 0,.int .i64 0,.int .i64 0,.int .i64 0,.string (⟨#[]⟩:ByteArray),.int .i64 0] 29 (0,0)) (by (with_reducible repeat (first|refine blk_drewN ?_ _|refine blk_drew ?_|refine blk_alloc ?_ _));exact BK391.out) hb);have n1_:=Aside0.mk (below_step (by repeat (first|(with_reducible first|exact HB.out|apply below_alloc|apply pw_below_drewN|apply below_drew1|refine below_set ?_ GE391.out)|exact HB.out)) hb);clear BK391;clear HB;have BK391:=n0_;have HB:=n1_;clear n0_ n1_;(try clear hb);(try clear hb2);(try clear hk);(try clear hi)))
       have n0_:=Aside0.mk (blk_drew BK391.out)
       have n1_:=Aside0.mk (below_drew1 HB.out)
       clear BK391
       clear HB
       have BK391:=n0_
       have HB:=n1_
       clear n0_ n1_
       have q23:(1:Int)≤((l0.length:Int):Int):=of_decide_eq_true (by first|(with_reducible assumption)|assumption)
       obtain ⟨i023,hi023,_,hsz23,_⟩:=info_parts info25
       have hroom23:l0.length≤c0:=HC0.out
       have hC23:Kd.C k25 _ A0 l0.length l0:=HR0.out
       have hcut23:=cut_from (P:=Try.prog) 23 25 .i64 Try.underlying23 hi023 4 hsz23 A0 l0.length c0 1 (by omega) q23
       have hr23:=Kd.C_drop (m:=(1:Int).toNat) (c:=c0) hC23 (by omega) hroom23
       obtain ⟨A23,hA23⟩:∃ A1,A1 = (if c0 = (1:Int).toNat then A0 else (A0:Option Addr).map (·.add ((1:Int).toNat * 4))):=⟨_,rfl⟩
       obtain ⟨c23,hc23⟩:∃ c1,c1 = c0 - (1:Int).toNat:=⟨_,rfl⟩
       have hy23:y412.length = l0.length - (1:Int).toNat:=(by rw [Ny412.out,List.length_drop] <;> omega)
       rw [show (l0).drop (1:Int).toNat = y412 from Ny412.out.symm] at hr23
       replace hr23:Kd.C k25 _ A23 y412.length y412:=(by rw [hA23];exact hr23)
       rw [← hy23,← hA23,← hc23] at hcut23
       have HR415:=Aside0.mk hr23
       have HC415:=Aside0.mk (show y412.length≤c23 from by rw [hy23,hc23];exact Nat.sub_le_sub_right hroom23 _)
       clear hr23 hC23 hroom23 hi023 hsz23 hc23
       have KY23:=Aside0.mk hy23
       have KA23:=Aside0.mk hA23
       clear hy23 hA23
       replace q23:=eq_true q23
       have p419:0≤(0:Int):=(by omega)
       have q419:0 < (l0.length:Int):=of_decide_eq_true (by first|(with_reducible assumption)|assumption)
       obtain ⟨ad419,e419,hx419_0,hx419_1,hx419_2,hx419_3⟩:=at_T25 HR0.out 0 p419 q419
       have hw419_3:=hx419_3
       (try rw [show ((0:Int)).toNat = 0 from rfl] at hw419_3)
       (try rw [show 0 * 4 = 0 from rfl] at hw419_3)
       (try rw [Addr.add_zero'] at hw419_3)
       have hw419_2:=hx419_2
       (try rw [show ((0:Int)).toNat = 0 from rfl] at hw419_2)
       (try rw [show 0 * 4 = 0 from rfl] at hw419_2)
       (try rw [Addr.add_zero'] at hw419_2)
       have hw419_1:=hx419_1
       (try rw [show ((0:Int)).toNat = 0 from rfl] at hw419_1)
       (try rw [show 0 * 4 = 0 from rfl] at hw419_1)
       (try rw [Addr.add_zero'] at hw419_1)
       have hw419_0:=hx419_0
       (try rw [show ((0:Int)).toNat = 0 from rfl] at hw419_0)
       (try rw [show 0 * 4 = 0 from rfl] at hw419_0)
       (try rw [Addr.add_zero'] at hw419_0)
       cases e419
       have qi419:(0 < l0.length) = True:=eq_true (by omega)
       (try rw [show ((0:Int)).toNat = 0 from rfl] at hx419_0)
       (try rw [show 0 * 4 = 0 from rfl] at hx419_0)
       (try rw [Addr.add_zero'] at hx419_0)
       (try rw [show ((0:Int)).toNat = 0 from rfl] at hx419_1)
       (try rw [show 0 * 4 = 0 from rfl] at hx419_1)
       (try rw [Addr.add_zero'] at hx419_1)
       (try rw [show ((0:Int)).toNat = 0 from rfl] at hx419_2)
       (try rw [show 0 * 4 = 0 from rfl] at hx419_2)
       (try rw [Addr.add_zero'] at hx419_2)
       (try rw [show ((0:Int)).toNat = 0 from rfl] at hx419_3)
       (try rw [show 0 * 4 = 0 from rfl] at hx419_3)
       (try rw [Addr.add_zero'] at hx419_3)
       replace hx419_0:=(HB.out.cell (World.block_lt_of_cell? w _ hx419_0)).trans hx419_0
       replace hx419_1:=(HB.out.cell (World.block_lt_of_cell? w _ hx419_1)).trans hx419_1
       replace hx419_2:=(HB.out.cell (World.block_lt_of_cell? w _ hx419_2)).trans hx419_2
       replace hx419_3:=(HB.out.cell (World.block_lt_of_cell? w _ hx419_3)).trans hx419_3
       replace p419:=eq_true p419
       replace q419:=eq_true q419
       refine start_ (n:=9) (S:=fun w'=>w'.cell? ad419 = some (.int .i64 ((rd_T25 l0 0).f0))∧w'.cell? ⟨ad419.block,ad419.off + 1,none⟩ = some (.int .i64 ((rd_T25 l0 0).f1))∧w'.cell? ⟨ad419.block,ad419.off + 2,none⟩ = some (.int .i64 ((rd_T25 l0 0).f2))∧w'.cell? ⟨ad419.block,ad419.off + 3,none⟩ = some (.string ((rd_T25 l0 0).f3))) (ds:=[]) #[false,false,false,false,false,false,false,false,false] (by kernel_rfl) rfl rfl ⟨((HB.out.cell (World.block_lt_of_cell? w _ hw419_0)).trans hw419_0),((HB.out.cell (World.block_lt_of_cell? w _ hw419_1)).trans hw419_1),((HB.out.cell (World.block_lt_of_cell? w _ hw419_2)).trans hw419_2),((HB.out.cell (World.block_lt_of_cell? w _ hw419_3)).trans hw419_3)⟩ (fun hHeld=>?_);refine with_tabW spec_QueueTake.tab7 spec_QueueTake.bits7 (fun HT_ HW_=>?_)
       generalize w21.drew = w22 at BK391 HB HR415 hx419_0 hx419_1 hx419_2 hx419_3 hHeld ⊢
       refine pure_ (i:=1) (N:=some 16) (v:=?_) (a':=?_) #[false,true,false,false,false,false,false,false,false] rfl rfl (any_of HT_.out (by kernel_rfl)) (fun _ _ _ h=>h) (Or.inl ⟨by rfl,?_⟩) ?_ ?_
       rotate_left
       ·intro w'
        go_simp
        with_reducible rfl
       rotate_left
       ·simp only [Act.put,List.setIfInBounds_toArray,List.set_cons_zero,List.set_cons_succ,i64_w,i32_w]
        rfl
       refine pure_ (i:=2) (N:=some 17) (v:=?_) (a':=?_) #[false,true,true,false,false,false,false,false,false] rfl rfl (any_of HT_.out (by kernel_rfl)) (fun _ _ _ h=>h) (Or.inl ⟨by rfl,?_⟩) ?_ ?_
       rotate_left
       ·intro w'
        go_simp
        with_reducible rfl
       rotate_left
       ·simp only [Act.put,List.setIfInBounds_toArray,List.set_cons_zero,List.set_cons_succ,i64_w,i32_w]
        rfl
       refine pure_ (i:=4) (N:=some 19) (v:=?_) (a':=?_) #[false,true,true,false,true,false,false,false,false] rfl rfl (any_of HT_.out (by kernel_rfl)) (fun _ _ _ h=>h) (Or.inl ⟨by rfl,?_⟩) ?_ ?_
       rotate_left
       ·intro w'
        go_simp
        with_reducible rfl
       rotate_left
       ·simp only [Act.put,List.setIfInBounds_toArray,List.set_cons_zero,List.set_cons_succ,i64_w,i32_w]
        rfl
       refine pure_ (i:=5) (N:=some 20) (v:=?_) (a':=?_) #[false,true,true,false,true,true,false,false,false] rfl rfl (any_of HT_.out (by kernel_rfl)) (fun _ _ _ h=>h) (Or.inl ⟨by rfl,?_⟩) ?_ ?_
       rotate_left
       ·intro w'
        go_simp
        with_reducible rfl
       rotate_left
       ·simp only [Act.put,List.setIfInBounds_toArray,List.set_cons_zero,List.set_cons_succ,i64_w,i32_w]
        rfl
       refine take_ (i:=6) (N:=some 21) (v:=?_) (a':=?_) #[false,true,true,false,true,true,true,false,false] rfl rfl (take_ofW HT_.out HW_.out (by kernel_rfl)) (fun _ _ _ h=>h) (Or.inl ⟨by rfl,?_⟩) hHeld ?_ ?_
       rotate_left
       ·rintro w' ⟨s0,s1,s2,s3⟩
        go_simp
        with_reducible rfl
       rotate_left
       ·simp only [Act.put,List.setIfInBounds_toArray,List.set_cons_zero,List.set_cons_succ,i64_w,i32_w]
        rfl
       refine one_ (i:=0) (N:=some 15) #[true,true,true,false,true,true,true,false,false] rfl rfl (one_of HT_.out (by kernel_rfl)) (by decide) (fun K hK=>?_)
       refine Kd.R_lit_step k25 _ 25 ?hg (N:=15) ?hd (xs:=([]:List (S25))) (inner:=[]) (ok:=fun _=>True) (okp:=fun _=>True) ?hr ?hp (fun _ hk=>hk) trivial (Below.refl _ _) (Nat.le_refl _) (by simp) ?_;(case hd=>rfl);(case hg=>rfl);(case hr=>first|(go_simp;done)|(go_simp;rfl));(case hp=>exact (Reps.none _ _))
       intro v410 w24 ho25 hb hg_ hnew_
       clear hg_ hnew_
       (first|rw [← Ny409.out] at ho25|(simp only [Int.reduceToNat] at ho25;rw [← Ny409.out] at ho25))
       have n0_:=Aside0.mk (Kd.R_lower ho25 (below_size (by repeat (first|(with_reducible first|exact HB.out|apply below_alloc|apply pw_below_drewN|apply below_drew1|refine below_set ?_ GE391.out)|exact HB.out))))
       have n1_:=Aside0.mk (blk_below (g:=gb391) (o:=.cells #[.slice none 0 0,.int .i64 0,.int .i64 0,.int .i64 0,.string (⟨#[]⟩:ByteArray),.int .i64 0] 29 (0,0)) (by (with_reducible repeat (first|refine blk_drewN ?_ _|refine blk_drew ?_|refine blk_alloc ?_ _));exact BK391.out) hb)
       have n2_:=Aside0.mk (below_step (by repeat (first|(with_reducible first|exact HB.out|apply below_alloc|apply pw_below_drewN|apply below_drew1|refine below_set ?_ GE391.out)|exact HB.out)) hb)
       clear BK391
       clear HB
       have HO411:=n0_
       have BK391:=n1_
       have HB:=n2_
       clear n0_ n1_ n2_
       clear hb ho25
       refine hK.out _ _ ⟨((HB.out.cell (World.block_lt_of_cell? w _ hw419_0)).trans hw419_0),((HB.out.cell (World.block_lt_of_cell? w _ hw419_1)).trans hw419_1),((HB.out.cell (World.block_lt_of_cell? w _ hw419_2)).trans hw419_2),((HB.out.cell (World.block_lt_of_cell? w _ hw419_3)).trans hw419_3)⟩ (fun hHeld=>?_)
       clear hK K
       refine norm_ (a':=?_) ?_ ?_
       rotate_left
       ·show Act.put _ (some 15) _ = _
        simp only [Act.put,List.setIfInBounds_toArray,List.set_cons_zero,List.set_cons_succ,i64_w,i32_w]
        rfl
       refine one_ (i:=3) (N:=some 18) #[true,true,true,true,true,true,true,false,false] rfl rfl (one_of HT_.out (by kernel_rfl)) (by decide) (fun K hK=>?_)
       refine Kd.R_append_rows_step k25 (w0:=w) w.heap.size (by rfl) (.tmp 15) (.tmp 17) 23 25 (.agg #[(.int .i64 0),(.int .i64 0),(.int .i64 0),(.string ⟨#[]⟩)]) 40 rfl Try.underlying23 info25 rfl (by decide) (by omega) v410 y409 y412 _ _ _ (fun _=>True) (fun _=>False) rfl rfl ?aO ?aR (fun _ _ h=>h) (fun _ h=>h.elim) ?aF ?aB ?aS ?aL ?_
       (case aR=>repeat (first|exact (Kd.C_below HR415.out HB.out)|(with_reducible refine Kd.C_alloc ?_ _)|(with_reducible refine Kd.C_drewN ?_ _)|(with_reducible refine Kd.C_drew ?_)))
       (case aB=>exact (by repeat (first|(with_reducible first|exact HB.out|apply below_alloc|apply pw_below_drewN|apply below_drew1|refine below_set ?_ GE391.out)|exact HB.out)))
       (case aF=>exact (fun _ _=>trivial))
       (case aO=>exact (by (with_reducible repeat (first|apply Kd.R_alloc|apply Kd.R_drewN|apply Kd.R_drew));exact HO411.out))
       (case aS=>exact (below_size (by repeat (first|(with_reducible first|exact HB.out|apply below_alloc|apply pw_below_drewN|apply below_drew1|refine below_set ?_ GE391.out)|exact HB.out))))
       (case aL=>have:=LMc18.out;omega)
       intro v417 w26 ho hb hg hat
       rw [← Ny416.out] at ho
       have n0_:=Aside0.mk (blk_grown (g:=gb391) (o:=.cells #[.slice none 0 0,.int .i64 0,.int .i64 0,.int .i64 0,.string (⟨#[]⟩:ByteArray),.int .i64 0] 29 (0,0)) (by (with_reducible repeat (first|refine blk_drewN ?_ _|refine blk_drew ?_|refine blk_alloc ?_ _));exact BK391.out) hg (Kd.R_ne HO411.out BK391.out (by decide)))
       have n1_:=Aside0.mk (hb)
       have n2_:=Aside0.mk (ho)
       clear BK391
       clear HB
       clear HO411
       have BK391:=n0_
       have HB:=n1_
       have HO418:=n2_
       clear n0_ n1_ n2_
       clear ho hb hg hat
       obtain ⟨Ao27,co27,eo27⟩:=Kd.R_slice HO418.out
       (first|subst eo27|(injection eo27 with f1_ f2_ f3_;have f4_:=f1_.symm;have f5_:=f3_.symm;clear f1_ f2_ f3_;subst f4_;subst f5_))
       refine hK.out _ _ ⟨((HB.out.cell (World.block_lt_of_cell? w _ hw419_0)).trans hw419_0),((HB.out.cell (World.block_lt_of_cell? w _ hw419_1)).trans hw419_1),((HB.out.cell (World.block_lt_of_cell? w _ hw419_2)).trans hw419_2),((HB.out.cell (World.block_lt_of_cell? w _ hw419_3)).trans hw419_3)⟩ (fun hHeld=>?_)
       clear hK K
       refine norm_ (a':=?_) ?_ ?_
       rotate_left
       ·show Act.put _ (some 18) _ = _
        simp only [Act.put,List.setIfInBounds_toArray,List.set_cons_zero,List.set_cons_succ,i64_w,i32_w]
        rfl
       refine pure_ (i:=7) (N:=some 22) (v:=?_) (a':=?_) #[true,true,true,true,true,true,true,true,false] rfl rfl (any_of HT_.out (by kernel_rfl)) (fun _ _ _ h=>h) (Or.inl ⟨by rfl,?_⟩) ?_ ?_
       rotate_left
       ·intro w'
        go_simp
        with_reducible rfl
       rotate_left
       ·simp only [Act.put,List.setIfInBounds_toArray,List.set_cons_zero,List.set_cons_succ,i64_w,i32_w]
        rfl
       refine one_ (i:=8) (N:=none) #[true,true,true,true,true,true,true,true,true] rfl rfl (one_of HT_.out (by kernel_rfl)) (by decide) (fun K hK=>?_)
       have hs28:w26.cell? ⟨gb391,0,none⟩ = some (.slice none 0 0):=(blk_cell BK391.out 0).trans rfl
       have hfs28:=blk_frozen BK391.out 0
       have hs29:w26.cell? ⟨gb391,1,none⟩ = some (.int .i64 0):=(blk_cell BK391.out 1).trans rfl
       have hfs29:=blk_frozen BK391.out 1
       have hs30:w26.cell? ⟨gb391,2,none⟩ = some (.int .i64 0):=(blk_cell BK391.out 2).trans rfl
       have hfs30:=blk_frozen BK391.out 2
       have hs31:w26.cell? ⟨gb391,3,none⟩ = some (.int .i64 0):=(blk_cell BK391.out 3).trans rfl
       have hfs31:=blk_frozen BK391.out 3
       have hs32:w26.cell? ⟨gb391,4,none⟩ = some (.string (⟨#[]⟩:ByteArray)):=(blk_cell BK391.out 4).trans rfl
       have hfs32:=blk_frozen BK391.out 4
       have hs33:w26.cell? ⟨gb391,5,none⟩ = some (.int .i64 0):=(blk_cell BK391.out 5).trans rfl
       have hfs33:=blk_frozen BK391.out 5
       refine skip_ (w1:=?_) (by rfl) rfl ?_ ?_
       rotate_left
       ·go_simp
        rfl
       refine hK.out _ _ ⟨((cell_far (p:=⟨gb391,_,none⟩) (by first|exact Nat.ne_of_lt (Nat.lt_of_lt_of_le (by have:=World.block_lt_of_cell? _ _ hw419_0;first|rwa [add_block] at this|exact this) GW391.out)|(rw [add_block];exact Nat.ne_of_lt (Nat.lt_of_lt_of_le (by have:=World.block_lt_of_cell? _ _ hw419_0;first|rwa [add_block] at this|exact this) GW391.out))|(show (Addr.add _ _).block≠_;rw [add_block];exact Nat.ne_of_lt (Nat.lt_of_lt_of_le (by have:=World.block_lt_of_cell? _ _ hw419_0;first|rwa [add_block] at this|exact this) GW391.out))|(dsimp only;exact Nat.ne_of_lt (Nat.lt_of_lt_of_le (by have:=World.block_lt_of_cell? _ _ hw419_0;first|rwa [add_block] at this|exact this) GW391.out))) _).trans (((cell_far (p:=⟨gb391,_,none⟩) (by first|exact Nat.ne_of_lt (Nat.lt_of_lt_of_le (by have:=World.block_lt_of_cell? _ _ hw419_0;first|rwa [add_block] at this|exact this) GW391.out)|(rw [add_block];exact Nat.ne_of_lt (Nat.lt_of_lt_of_le (by have:=World.block_lt_of_cell? _ _ hw419_0;first|rwa [add_block] at this|exact this) GW391.out))|(show (Addr.add _ _).block≠_;rw [add_block];exact Nat.ne_of_lt (Nat.lt_of_lt_of_le (by have:=World.block_lt_of_cell? _ _ hw419_0;first|rwa [add_block] at this|exact this) GW391.out))|(dsimp only;exact Nat.ne_of_lt (Nat.lt_of_lt_of_le (by have:=World.block_lt_of_cell? _ _ hw419_0;first|rwa [add_block] at this|exact this) GW391.out))) _).trans (((cell_far (p:=⟨gb391,_,none⟩) (by first|exact Nat.ne_of_lt (Nat.lt_of_lt_of_le (by have:=World.block_lt_of_cell? _ _ hw419_0;first|rwa [add_block] at this|exact this) GW391.out)|(rw [add_block];exact Nat.ne_of_lt (Nat.lt_of_lt_of_le (by have:=World.block_lt_of_cell? _ _ hw419_0;first|rwa [add_block] at this|exact this) GW391.out))|(show (Addr.add _ _).block≠_;rw [add_block];exact Nat.ne_of_lt (Nat.lt_of_lt_of_le (by have:=World.block_lt_of_cell? _ _ hw419_0;first|rwa [add_block] at this|exact this) GW391.out))|(dsimp only;exact Nat.ne_of_lt (Nat.lt_of_lt_of_le (by have:=World.block_lt_of_cell? _ _ hw419_0;first|rwa [add_block] at this|exact this) GW391.out))) _).trans (((cell_far (p:=⟨gb391,_,none⟩) (by first|exact Nat.ne_of_lt (Nat.lt_of_lt_of_le (by have:=World.block_lt_of_cell? _ _ hw419_0;first|rwa [add_block] at this|exact this) GW391.out)|(rw [add_block];exact Nat.ne_of_lt (Nat.lt_of_lt_of_le (by have:=World.block_lt_of_cell? _ _ hw419_0;first|rwa [add_block] at this|exact this) GW391.out))|(show (Addr.add _ _).block≠_;rw [add_block];exact Nat.ne_of_lt (Nat.lt_of_lt_of_le (by have:=World.block_lt_of_cell? _ _ hw419_0;first|rwa [add_block] at this|exact this) GW391.out))|(dsimp only;exact Nat.ne_of_lt (Nat.lt_of_lt_of_le (by have:=World.block_lt_of_cell? _ _ hw419_0;first|rwa [add_block] at this|exact this) GW391.out))) _).trans (((cell_far (p:=⟨gb391,_,none⟩) (by first|exact Nat.ne_of_lt (Nat.lt_of_lt_of_le (by have:=World.block_lt_of_cell? _ _ hw419_0;first|rwa [add_block] at this|exact this) GW391.out)|(rw [add_block];exact Nat.ne_of_lt (Nat.lt_of_lt_of_le (by have:=World.block_lt_of_cell? _ _ hw419_0;first|rwa [add_block] at this|exact this) GW391.out))|(show (Addr.add _ _).block≠_;rw [add_block];exact Nat.ne_of_lt (Nat.lt_of_lt_of_le (by have:=World.block_lt_of_cell? _ _ hw419_0;first|rwa [add_block] at this|exact this) GW391.out))|(dsimp only;exact Nat.ne_of_lt (Nat.lt_of_lt_of_le (by have:=World.block_lt_of_cell? _ _ hw419_0;first|rwa [add_block] at this|exact this) GW391.out))) _).trans (((cell_far (p:=⟨gb391,_,none⟩) (by first|exact Nat.ne_of_lt (Nat.lt_of_lt_of_le (by have:=World.block_lt_of_cell? _ _ hw419_0;first|rwa [add_block] at this|exact this) GW391.out)|(rw [add_block];exact Nat.ne_of_lt (Nat.lt_of_lt_of_le (by have:=World.block_lt_of_cell? _ _ hw419_0;first|rwa [add_block] at this|exact this) GW391.out))|(show (Addr.add _ _).block≠_;rw [add_block];exact Nat.ne_of_lt (Nat.lt_of_lt_of_le (by have:=World.block_lt_of_cell? _ _ hw419_0;first|rwa [add_block] at this|exact this) GW391.out))|(dsimp only;exact Nat.ne_of_lt (Nat.lt_of_lt_of_le (by have:=World.block_lt_of_cell? _ _ hw419_0;first|rwa [add_block] at this|exact this) GW391.out))) _).trans (hHeld.1)))))))))))),((cell_far (p:=⟨gb391,_,none⟩) (by first|exact Nat.ne_of_lt (Nat.lt_of_lt_of_le (by have:=World.block_lt_of_cell? _ _ hw419_1;first|rwa [add_block] at this|exact this) GW391.out)|(rw [add_block];exact Nat.ne_of_lt (Nat.lt_of_lt_of_le (by have:=World.block_lt_of_cell? _ _ hw419_1;first|rwa [add_block] at this|exact this) GW391.out))|(show (Addr.add _ _).block≠_;rw [add_block];exact Nat.ne_of_lt (Nat.lt_of_lt_of_le (by have:=World.block_lt_of_cell? _ _ hw419_1;first|rwa [add_block] at this|exact this) GW391.out))|(dsimp only;exact Nat.ne_of_lt (Nat.lt_of_lt_of_le (by have:=World.block_lt_of_cell? _ _ hw419_1;first|rwa [add_block] at this|exact this) GW391.out))) _).trans (((cell_far (p:=⟨gb391,_,none⟩) (by first|exact Nat.ne_of_lt (Nat.lt_of_lt_of_le (by have:=World.block_lt_of_cell? _ _ hw419_1;first|rwa [add_block] at this|exact this) GW391.out)|(rw [add_block];exact Nat.ne_of_lt (Nat.lt_of_lt_of_le (by have:=World.block_lt_of_cell? _ _ hw419_1;first|rwa [add_block] at this|exact this) GW391.out))|(show (Addr.add _ _).block≠_;rw [add_block];exact Nat.ne_of_lt (Nat.lt_of_lt_of_le (by have:=World.block_lt_of_cell? _ _ hw419_1;first|rwa [add_block] at this|exact this) GW391.out))|(dsimp only;exact Nat.ne_of_lt (Nat.lt_of_lt_of_le (by have:=World.block_lt_of_cell? _ _ hw419_1;first|rwa [add_block] at this|exact this) GW391.out))) _).trans (((cell_far (p:=⟨gb391,_,none⟩) (by first|exact Nat.ne_of_lt (Nat.lt_of_lt_of_le (by have:=World.block_lt_of_cell? _ _ hw419_1;first|rwa [add_block] at this|exact this) GW391.out)|(rw [add_block];exact Nat.ne_of_lt (Nat.lt_of_lt_of_le (by have:=World.block_lt_of_cell? _ _ hw419_1;first|rwa [add_block] at this|exact this) GW391.out))|(show (Addr.add _ _).block≠_;rw [add_block];exact Nat.ne_of_lt (Nat.lt_of_lt_of_le (by have:=World.block_lt_of_cell? _ _ hw419_1;first|rwa [add_block] at this|exact this) GW391.out))|(dsimp only;exact Nat.ne_of_lt (Nat.lt_of_lt_of_le (by have:=World.block_lt_of_cell? _ _ hw419_1;first|rwa [add_block] at this|exact this) GW391.out))) _).trans (((cell_far (p:=⟨gb391,_,none⟩) (by first|exact Nat.ne_of_lt (Nat.lt_of_lt_of_le (by have:=World.block_lt_of_cell? _ _ hw419_1;first|rwa [add_block] at this|exact this) GW391.out)|(rw [add_block];exact Nat.ne_of_lt (Nat.lt_of_lt_of_le (by have:=World.block_lt_of_cell? _ _ hw419_1;first|rwa [add_block] at this|exact this) GW391.out))|(show (Addr.add _ _).block≠_;rw [add_block];exact Nat.ne_of_lt (Nat.lt_of_lt_of_le (by have:=World.block_lt_of_cell? _ _ hw419_1;first|rwa [add_block] at this|exact this) GW391.out))|(dsimp only;exact Nat.ne_of_lt (Nat.lt_of_lt_of_le (by have:=World.block_lt_of_cell? _ _ hw419_1;first|rwa [add_block] at this|exact this) GW391.out))) _).trans (((cell_far (p:=⟨gb391,_,none⟩) (by first|exact Nat.ne_of_lt (Nat.lt_of_lt_of_le (by have:=World.block_lt_of_cell? _ _ hw419_1;first|rwa [add_block] at this|exact this) GW391.out)|(rw [add_block];exact Nat.ne_of_lt (Nat.lt_of_lt_of_le (by have:=World.block_lt_of_cell? _ _ hw419_1;first|rwa [add_block] at this|exact this) GW391.out))|(show (Addr.add _ _).block≠_;rw [add_block];exact Nat.ne_of_lt (Nat.lt_of_lt_of_le (by have:=World.block_lt_of_cell? _ _ hw419_1;first|rwa [add_block] at this|exact this) GW391.out))|(dsimp only;exact Nat.ne_of_lt (Nat.lt_of_lt_of_le (by have:=World.block_lt_of_cell? _ _ hw419_1;first|rwa [add_block] at this|exact this) GW391.out))) _).trans (((cell_far (p:=⟨gb391,_,none⟩) (by first|exact Nat.ne_of_lt (Nat.lt_of_lt_of_le (by have:=World.block_lt_of_cell? _ _ hw419_1;first|rwa [add_block] at this|exact this) GW391.out)|(rw [add_block];exact Nat.ne_of_lt (Nat.lt_of_lt_of_le (by have:=World.block_lt_of_cell? _ _ hw419_1;first|rwa [add_block] at this|exact this) GW391.out))|(show (Addr.add _ _).block≠_;rw [add_block];exact Nat.ne_of_lt (Nat.lt_of_lt_of_le (by have:=World.block_lt_of_cell? _ _ hw419_1;first|rwa [add_block] at this|exact this) GW391.out))|(dsimp only;exact Nat.ne_of_lt (Nat.lt_of_lt_of_le (by have:=World.block_lt_of_cell? _ _ hw419_1;first|rwa [add_block] at this|exact this) GW391.out))) _).trans (hHeld.2.1)))))))))))),((cell_far (p:=⟨gb391,_,none⟩) (by first|exact Nat.ne_of_lt (Nat.lt_of_lt_of_le (by have:=World.block_lt_of_cell? _ _ hw419_2;first|rwa [add_block] at this|exact this) GW391.out)|(rw [add_block];exact Nat.ne_of_lt (Nat.lt_of_lt_of_le (by have:=World.block_lt_of_cell? _ _ hw419_2;first|rwa [add_block] at this|exact this) GW391.out))|(show (Addr.add _ _).block≠_;rw [add_block];exact Nat.ne_of_lt (Nat.lt_of_lt_of_le (by have:=World.block_lt_of_cell? _ _ hw419_2;first|rwa [add_block] at this|exact this) GW391.out))|(dsimp only;exact Nat.ne_of_lt (Nat.lt_of_lt_of_le (by have:=World.block_lt_of_cell? _ _ hw419_2;first|rwa [add_block] at this|exact this) GW391.out))) _).trans (((cell_far (p:=⟨gb391,_,none⟩) (by first|exact Nat.ne_of_lt (Nat.lt_of_lt_of_le (by have:=World.block_lt_of_cell? _ _ hw419_2;first|rwa [add_block] at this|exact this) GW391.out)|(rw [add_block];exact Nat.ne_of_lt (Nat.lt_of_lt_of_le (by have:=World.block_lt_of_cell? _ _ hw419_2;first|rwa [add_block] at this|exact this) GW391.out))|(show (Addr.add _ _).block≠_;rw [add_block];exact Nat.ne_of_lt (Nat.lt_of_lt_of_le (by have:=World.block_lt_of_cell? _ _ hw419_2;first|rwa [add_block] at this|exact this) GW391.out))|(dsimp only;exact Nat.ne_of_lt (Nat.lt_of_lt_of_le (by have:=World.block_lt_of_cell? _ _ hw419_2;first|rwa [add_block] at this|exact this) GW391.out))) _).trans (((cell_far (p:=⟨gb391,_,none⟩) (by first|exact Nat.ne_of_lt (Nat.lt_of_lt_of_le (by have:=World.block_lt_of_cell? _ _ hw419_2;first|rwa [add_block] at this|exact this) GW391.out)|(rw [add_block];exact Nat.ne_of_lt (Nat.lt_of_lt_of_le (by have:=World.block_lt_of_cell? _ _ hw419_2;first|rwa [add_block] at this|exact this) GW391.out))|(show (Addr.add _ _).block≠_;rw [add_block];exact Nat.ne_of_lt (Nat.lt_of_lt_of_le (by have:=World.block_lt_of_cell? _ _ hw419_2;first|rwa [add_block] at this|exact this) GW391.out))|(dsimp only;exact Nat.ne_of_lt (Nat.lt_of_lt_of_le (by have:=World.block_lt_of_cell? _ _ hw419_2;first|rwa [add_block] at this|exact this) GW391.out))) _).trans (((cell_far (p:=⟨gb391,_,none⟩) (by first|exact Nat.ne_of_lt (Nat.lt_of_lt_of_le (by have:=World.block_lt_of_cell? _ _ hw419_2;first|rwa [add_block] at this|exact this) GW391.out)|(rw [add_block];exact Nat.ne_of_lt (Nat.lt_of_lt_of_le (by have:=World.block_lt_of_cell? _ _ hw419_2;first|rwa [add_block] at this|exact this) GW391.out))|(show (Addr.add _ _).block≠_;rw [add_block];exact Nat.ne_of_lt (Nat.lt_of_lt_of_le (by have:=World.block_lt_of_cell? _ _ hw419_2;first|rwa [add_block] at this|exact this) GW391.out))|(dsimp only;exact Nat.ne_of_lt (Nat.lt_of_lt_of_le (by have:=World.block_lt_of_cell? _ _ hw419_2;first|rwa [add_block] at this|exact this) GW391.out))) _).trans (((cell_far (p:=⟨gb391,_,none⟩) (by first|exact Nat.ne_of_lt (Nat.lt_of_lt_of_le (by have:=World.block_lt_of_cell? _ _ hw419_2;first|rwa [add_block] at this|exact this) GW391.out)|(rw [add_block];exact Nat.ne_of_lt (Nat.lt_of_lt_of_le (by have:=World.block_lt_of_cell? _ _ hw419_2;first|rwa [add_block] at this|exact this) GW391.out))|(show (Addr.add _ _).block≠_;rw [add_block];exact Nat.ne_of_lt (Nat.lt_of_lt_of_le (by have:=World.block_lt_of_cell? _ _ hw419_2;first|rwa [add_block] at this|exact this) GW391.out))|(dsimp only;exact Nat.ne_of_lt (Nat.lt_of_lt_of_le (by have:=World.block_lt_of_cell? _ _ hw419_2;first|rwa [add_block] at this|exact this) GW391.out))) _).trans (((cell_far (p:=⟨gb391,_,none⟩) (by first|exact Nat.ne_of_lt (Nat.lt_of_lt_of_le (by have:=World.block_lt_of_cell? _ _ hw419_2;first|rwa [add_block] at this|exact this) GW391.out)|(rw [add_block];exact Nat.ne_of_lt (Nat.lt_of_lt_of_le (by have:=World.block_lt_of_cell? _ _ hw419_2;first|rwa [add_block] at this|exact this) GW391.out))|(show (Addr.add _ _).block≠_;rw [add_block];exact Nat.ne_of_lt (Nat.lt_of_lt_of_le (by have:=World.block_lt_of_cell? _ _ hw419_2;first|rwa [add_block] at this|exact this) GW391.out))|(dsimp only;exact Nat.ne_of_lt (Nat.lt_of_lt_of_le (by have:=World.block_lt_of_cell? _ _ hw419_2;first|rwa [add_block] at this|exact this) GW391.out))) _).trans (hHeld.2.2.1)))))))))))),((cell_far (p:=⟨gb391,_,none⟩) (by first|exact Nat.ne_of_lt (Nat.lt_of_lt_of_le (by have:=World.block_lt_of_cell? _ _ hw419_3;first|rwa [add_block] at this|exact this) GW391.out)|(rw [add_block];exact Nat.ne_of_lt (Nat.lt_of_lt_of_le (by have:=World.block_lt_of_cell? _ _ hw419_3;first|rwa [add_block] at this|exact this) GW391.out))|(show (Addr.add _ _).block≠_;rw [add_block];exact Nat.ne_of_lt (Nat.lt_of_lt_of_le (by have:=World.block_lt_of_cell? _ _ hw419_3;first|rwa [add_block] at this|exact this) GW391.out))|(dsimp only;exact Nat.ne_of_lt (Nat.lt_of_lt_of_le (by have:=World.block_lt_of_cell? _ _ hw419_3;first|rwa [add_block] at this|exact this) GW391.out))) _).trans (((cell_far (p:=⟨gb391,_,none⟩) (by first|exact Nat.ne_of_lt (Nat.lt_of_lt_of_le (by have:=World.block_lt_of_cell? _ _ hw419_3;first|rwa [add_block] at this|exact this) GW391.out)|(rw [add_block];exact Nat.ne_of_lt (Nat.lt_of_lt_of_le (by have:=World.block_lt_of_cell? _ _ hw419_3;first|rwa [add_block] at this|exact this) GW391.out))|(show (Addr.add _ _).block≠_;rw [add_block];exact Nat.ne_of_lt (Nat.lt_of_lt_of_le (by have:=World.block_lt_of_cell? _ _ hw419_3;first|rwa [add_block] at this|exact this) GW391.out))|(dsimp only;exact Nat.ne_of_lt (Nat.lt_of_lt_of_le (by have:=World.block_lt_of_cell? _ _ hw419_3;first|rwa [add_block] at this|exact this) GW391.out))) _).trans (((cell_far (p:=⟨gb391,_,none⟩) (by first|exact Nat.ne_of_lt (Nat.lt_of_lt_of_le (by have:=World.block_lt_of_cell? _ _ hw419_3;first|rwa [add_block] at this|exact this) GW391.out)|(rw [add_block];exact Nat.ne_of_lt (Nat.lt_of_lt_of_le (by have:=World.block_lt_of_cell? _ _ hw419_3;first|rwa [add_block] at this|exact this) GW391.out))|(show (Addr.add _ _).block≠_;rw [add_block];exact Nat.ne_of_lt (Nat.lt_of_lt_of_le (by have:=World.block_lt_of_cell? _ _ hw419_3;first|rwa [add_block] at this|exact this) GW391.out))|(dsimp only;exact Nat.ne_of_lt (Nat.lt_of_lt_of_le (by have:=World.block_lt_of_cell? _ _ hw419_3;first|rwa [add_block] at this|exact this) GW391.out))) _).trans (((cell_far (p:=⟨gb391,_,none⟩) (by first|exact Nat.ne_of_lt (Nat.lt_of_lt_of_le (by have:=World.block_lt_of_cell? _ _ hw419_3;first|rwa [add_block] at this|exact this) GW391.out)|(rw [add_block];exact Nat.ne_of_lt (Nat.lt_of_lt_of_le (by have:=World.block_lt_of_cell? _ _ hw419_3;first|rwa [add_block] at this|exact this) GW391.out))|(show (Addr.add _ _).block≠_;rw [add_block];exact Nat.ne_of_lt (Nat.lt_of_lt_of_le (by have:=World.block_lt_of_cell? _ _ hw419_3;first|rwa [add_block] at this|exact this) GW391.out))|(dsimp only;exact Nat.ne_of_lt (Nat.lt_of_lt_of_le (by have:=World.block_lt_of_cell? _ _ hw419_3;first|rwa [add_block] at this|exact this) GW391.out))) _).trans (((cell_far (p:=⟨gb391,_,none⟩) (by first|exact Nat.ne_of_lt (Nat.lt_of_lt_of_le (by have:=World.block_lt_of_cell? _ _ hw419_3;first|rwa [add_block] at this|exact this) GW391.out)|(rw [add_block];exact Nat.ne_of_lt (Nat.lt_of_lt_of_le (by have:=World.block_lt_of_cell? _ _ hw419_3;first|rwa [add_block] at this|exact this) GW391.out))|(show (Addr.add _ _).block≠_;rw [add_block];exact Nat.ne_of_lt (Nat.lt_of_lt_of_le (by have:=World.block_lt_of_cell? _ _ hw419_3;first|rwa [add_block] at this|exact this) GW391.out))|(dsimp only;exact Nat.ne_of_lt (Nat.lt_of_lt_of_le (by have:=World.block_lt_of_cell? _ _ hw419_3;first|rwa [add_block] at this|exact this) GW391.out))) _).trans (((cell_far (p:=⟨gb391,_,none⟩) (by first|exact Nat.ne_of_lt (Nat.lt_of_lt_of_le (by have:=World.block_lt_of_cell? _ _ hw419_3;first|rwa [add_block] at this|exact this) GW391.out)|(rw [add_block];exact Nat.ne_of_lt (Nat.lt_of_lt_of_le (by have:=World.block_lt_of_cell? _ _ hw419_3;first|rwa [add_block] at this|exact this) GW391.out))|(show (Addr.add _ _).block≠_;rw [add_block];exact Nat.ne_of_lt (Nat.lt_of_lt_of_le (by have:=World.block_lt_of_cell? _ _ hw419_3;first|rwa [add_block] at this|exact this) GW391.out))|(dsimp only;exact Nat.ne_of_lt (Nat.lt_of_lt_of_le (by have:=World.block_lt_of_cell? _ _ hw419_3;first|rwa [add_block] at this|exact this) GW391.out))) _).trans (hHeld.2.2.2))))))))))))⟩ (fun hHeld=>?_)
       clear hK K
       refine done_ (done_of HT_.out (by kernel_rfl)) ?_
       try go_wp2
       refine bodyPost_ret (results_cell_row rfl _ _ gb391 29 #[.slice Ao27 y416.length co27,.int .i64 ((rd_T25 l0 0).f0),.int .i64 ((rd_T25 l0 0).f1),.int .i64 ((rd_T25 l0 0).f2),.string ((rd_T25 l0 0).f3),.int .i64 0] (0,0) _ rfl (by (with_reducible repeat (first|refine blk_drewN ?_ _|refine blk_drew ?_|refine blk_alloc ?_ _));refine blk_put (cs:=#[.slice Ao27 y416.length co27,.int .i64 ((rd_T25 l0 0).f0),.int .i64 ((rd_T25 l0 0).f1),.int .i64 ((rd_T25 l0 0).f2),.string ((rd_T25 l0 0).f3),.int .i64 0]) ?_ 5 _ rfl;(with_reducible repeat (first|refine blk_drewN ?_ _|refine blk_drew ?_|refine blk_alloc ?_ _));refine blk_put (cs:=#[.slice Ao27 y416.length co27,.int .i64 ((rd_T25 l0 0).f0),.int .i64 ((rd_T25 l0 0).f1),.int .i64 ((rd_T25 l0 0).f2),.string (⟨#[]⟩:ByteArray),.int .i64 0]) ?_ 4 _ rfl;(with_reducible repeat (first|refine blk_drewN ?_ _|refine blk_drew ?_|refine blk_alloc ?_ _));refine blk_put (cs:=#[.slice Ao27 y416.length co27,.int .i64 ((rd_T25 l0 0).f0),.int .i64 ((rd_T25 l0 0).f1),.int .i64 0,.string (⟨#[]⟩:ByteArray),.int .i64 0]) ?_ 3 _ rfl;(with_reducible repeat (first|refine blk_drewN ?_ _|refine blk_drew ?_|refine blk_alloc ?_ _));refine blk_put (cs:=#[.slice Ao27 y416.length co27,.int .i64 ((rd_T25 l0 0).f0),.int .i64 0,.int .i64 0,.string (⟨#[]⟩:ByteArray),.int .i64 0]) ?_ 2 _ rfl;(with_reducible repeat (first|refine blk_drewN ?_ _|refine blk_drew ?_|refine blk_alloc ?_ _));refine blk_put (cs:=#[.slice Ao27 y416.length co27,.int .i64 0,.int .i64 0,.int .i64 0,.string (⟨#[]⟩:ByteArray),.int .i64 0]) ?_ 1 _ rfl;(with_reducible repeat (first|refine blk_drewN ?_ _|refine blk_drew ?_|refine blk_alloc ?_ _));refine blk_put (cs:=#[.slice none 0 0,.int .i64 0,.int .i64 0,.int .i64 0,.string (⟨#[]⟩:ByteArray),.int .i64 0]) ?_ 0 _ rfl;(with_reducible repeat (first|refine blk_drewN ?_ _|refine blk_drew ?_|refine blk_alloc ?_ _));exact BK391.out) Try.underlying29 rfl (by kernel_rfl)) rfl ?_
       exact ⟨_,by first|rfl|(simp [errW_none,errW_some] <;> rfl)|(simp [*,errW_none,errW_some] <;> rfl),by (with_reducible repeat (first|apply Kd.R_alloc|apply Kd.R_drewN|apply Kd.R_drew));exact Kd.R_mono (Kd.R_far (p:=⟨gb391,5,none⟩) (Kd.R_far (p:=⟨gb391,4,none⟩) (Kd.R_far (p:=⟨gb391,3,none⟩) (Kd.R_far (p:=⟨gb391,2,none⟩) (Kd.R_far (p:=⟨gb391,1,none⟩) (Kd.R_far (p:=⟨gb391,0,none⟩) (Kd.R_types HO418.out BK391.out (by decide)) (fun _ hk=>hk.2) (.slice Ao27 y416.length co27)) (fun _ hk=>hk.2) (.int .i64 ((rd_T25 l0 0).f0))) (fun _ hk=>hk.2) (.int .i64 ((rd_T25 l0 0).f1))) (fun _ hk=>hk.2) (.int .i64 ((rd_T25 l0 0).f2))) (fun _ hk=>hk.2) (.string ((rd_T25 l0 0).f3))) (fun _ hk=>hk.2) (.int .i64 0)) (fun _ hk=>trivial),by repeat (first|(with_reducible first|exact HB.out|apply below_alloc|apply pw_below_drewN|apply below_drew1|refine below_set ?_ GE391.out)|exact HB.out)⟩
      ·rw [if_neg c19] at H
       exact absurd H (by simp)
     ·rw [if_neg c18] at H
      exact absurd H (by simp)
    ·rw [if_neg c17] at H
     exact absurd H (by simp)
  ·replace c9:=Bool.eq_false_iff.mpr c9
   subst c9
   have H1:((spec_l03Ill.f 1).bind fun bt420=>(some (bt420.1,bt420.2.1,bt420.2.2.1,bt420.2.2.2.1,bt420.2.2.2.2.1,bt420.2.2.2.2.2))) = some (r1,r2,r3,r4,r5,r6):=by rw [if_neg (show ¬ (false = true) by decide)] at H;exact H
   clear H
   have H:=H1
   clear H1
   replace H:=Option.bind_eq_some_iff.mp H
   obtain ⟨⟨t420,t423,t424,t425,t426,t427⟩,A340,H⟩:=H
   replace H:(some (t420,t423,t424,t425,t426,t427)) = some (r1,r2,r3,r4,r5,r6):=H
   have A34:=Aside0.mk A340
   clear A340
   simp only [Option.some.injEq,Prod.mk.injEq] at H
   obtain ⟨rfl,rfl,rfl,rfl,rfl,rfl⟩:=H
   go_enter Try.func15,Try.ntmps15
   go_wp2_with (first|((with_reducible refine gate_dst (N:=2) rfl ?_);refine box_event ?hg (N:=2) ?hd (cs:=#[.slice none 0 0,.int .i64 0,.int .i64 0,.int .i64 0,.string (⟨#[]⟩:ByteArray),.int .i64 0]) (t:=29) ?hr ?_;(case hd=>rfl);(case hg=>rfl);(case hr=>first|(go_simp;done)|(go_simp;rfl));intro gb391 hg w35 hbox hb;have n0_:=Aside0.mk (below_step (by repeat (first|(with_reducible first|exact HB.out|apply below_alloc|apply pw_below_drewN|apply below_drew1)|exact HB.out)) hb);have n1_:=Aside0.mk (hbox);have n2_:=Aside0.mk ((by rw [hg];exact (below_size (by repeat (first|(with_reducible first|exact HB.out|apply below_alloc|apply pw_below_drewN|apply below_drew1)|exact HB.out))):w.heap.size≤gb391));have n3_:=Aside0.mk ((by rw [hg];exact (below_size (by repeat (first|(with_reducible first|exact HB.out|apply below_alloc|apply pw_below_drewN|apply below_drew1)|exact HB.out))):w.heap.size≤gb391));clear HB;have HB:=n0_;have BK391:=n1_;have GW391:=n2_;have GE391:=n3_;clear n0_ n1_ n2_ n3_;clear hb hbox hg)|((with_reducible refine gate_callee (f:=18) rfl ?_);refine goesL_ (some 8) rfl rfl Try.func18 (by kernel_rfl) rfl #[.slice A0 l0.length c0] rfl (by (try simp only [List.map_toArray,List.map_cons,List.map_nil]);first|done|rfl|(simp only [List.length_drop,List.length_take];rfl)) ?_;(with_reducible refine (spec_QueueRight.calls k _ _ l0 false _ ?side1 ?side2 A8.out).mono ?_);(case side1=>repeat (first|exact (Kd.C_below HR0.out HB.out)|(with_reducible refine Kd.C_alloc ?_ _)|(with_reducible refine Kd.C_drewN ?_ _)|(with_reducible refine Kd.C_drew ?_)));(case side2=>exact HC0.out);rintro e w36 ⟨rfl,hb⟩;refine ⟨_,rfl,?_⟩;have n0_:=Aside0.mk (blk_below (g:=gb391) (o:=.cells #[.slice none 0 0,.int .i64 0,.int .i64 0,.int .i64 0,.string (⟨#[]⟩:ByteArray),.int .i64 0] 29 (0,0)) (by (with_reducible repeat (first|refine blk_drewN ?_ _|refine blk_drew ?_|refine blk_alloc ?_ _));exact BK391.out) hb);have n1_:=Aside0.mk (below_step (by repeat (first|(with_reducible first|exact HB.out|apply below_alloc|apply pw_below_drewN|apply below_drew1|refine below_set ?_ GE391.out)|exact HB.out)) hb);clear BK391;clear HB;have BK391:=n0_;have HB:=n1_;clear n0_ n1_;(try clear hb);(try clear hb2);(try clear hk);(try clear hi))|((with_reducible refine gate_callee (f:=73) rfl ?_);refine goesL_ (some 10) rfl rfl Try.func73 (by kernel_rfl) rfl #[.int .i64 1] rfl (by (try simp only [List.map_toArray,List.map_cons,List.map_nil]);first|done|rfl|(simp only [List.length_drop,List.length_take];rfl)) ?_;(with_reducible refine (spec_l03Ill.calls 1 t420 t423 t424 t425 t426 t427 _ A34.out).mono ?_);rintro e w37 ⟨v421,rfl,ho0,hb⟩;refine ⟨_,rfl,?_⟩;have n0_:=Aside0.mk (Kd.R_lower ho0 (below_size (by repeat (first|(with_reducible first|exact HB.out|apply below_alloc|apply pw_below_drewN|apply below_drew1|refine below_set ?_ GE391.out)|exact HB.out))));have n1_:=Aside0.mk (blk_below (g:=gb391) (o:=.cells #[.slice none 0 0,.int .i64 0,.int .i64 0,.int .i64 0,.string (⟨#[]⟩:ByteArray),.int .i64 0] 29 (0,0)) (by (with_reducible repeat (first|refine blk_drewN ?_ _|refine blk_drew ?_|refine blk_alloc ?_ _));exact BK391.out) hb);have n2_:=Aside0.mk (below_step (by repeat (first|(with_reducible first|exact HB.out|apply below_alloc|apply pw_below_drewN|apply below_drew1|refine below_set ?_ GE391.out)|exact HB.out)) hb);clear BK391;clear HB;have HO422:=n0_;have BK391:=n1_;have HB:=n2_;clear n0_ n1_ n2_;(try clear hb);(try clear hb2);(try clear hk);(try clear hi);(try clear ho0);obtain ⟨Ao38,co38,eo38⟩:=Kd.R_slice HO422.out;subst eo38;have hcz39_0:w37.cell? ⟨gb391,0,none⟩ = some (.slice none 0 0):=(blk_cell BK391.out 0).trans rfl;have hcz39_1:w37.cell? ⟨gb391,1,none⟩ = some (.int .i64 0):=(blk_cell BK391.out 1).trans rfl;have hcz39_2:w37.cell? ⟨gb391,2,none⟩ = some (.int .i64 0):=(blk_cell BK391.out 2).trans rfl;have hcz39_3:w37.cell? ⟨gb391,3,none⟩ = some (.int .i64 0):=(blk_cell BK391.out 3).trans rfl;have hcz39_4:w37.cell? ⟨gb391,4,none⟩ = some (.string (⟨#[]⟩:ByteArray)):=(blk_cell BK391.out 4).trans rfl;have hcz39_5:w37.cell? ⟨gb391,5,none⟩ = some (.int .i64 0):=(blk_cell BK391.out 5).trans rfl;have hfz39_0:=blk_frozen BK391.out 0;have hfz39_1:=blk_frozen BK391.out 1;have hfz39_2:=blk_frozen BK391.out 2;have hfz39_3:=blk_frozen BK391.out 3;have hfz39_4:=blk_frozen BK391.out 4;have hfz39_5:=blk_frozen BK391.out 5))
   refine bodyPost_ret (results_cell_row rfl _ _ gb391 29 #[.slice Ao38 t420.length co38,.int .i64 t423,.int .i64 t424,.int .i64 t425,.string t426,.int .i64 t427] (0,0) _ rfl (by (with_reducible repeat (first|refine blk_drewN ?_ _|refine blk_drew ?_|refine blk_alloc ?_ _));refine blk_put (cs:=#[.slice Ao38 t420.length co38,.int .i64 t423,.int .i64 t424,.int .i64 t425,.string t426,.int .i64 0]) ?_ 5 _ rfl;(with_reducible repeat (first|refine blk_drewN ?_ _|refine blk_drew ?_|refine blk_alloc ?_ _));refine blk_put (cs:=#[.slice Ao38 t420.length co38,.int .i64 t423,.int .i64 t424,.int .i64 t425,.string (⟨#[]⟩:ByteArray),.int .i64 0]) ?_ 4 _ rfl;(with_reducible repeat (first|refine blk_drewN ?_ _|refine blk_drew ?_|refine blk_alloc ?_ _));refine blk_put (cs:=#[.slice Ao38 t420.length co38,.int .i64 t423,.int .i64 t424,.int .i64 0,.string (⟨#[]⟩:ByteArray),.int .i64 0]) ?_ 3 _ rfl;(with_reducible repeat (first|refine blk_drewN ?_ _|refine blk_drew ?_|refine blk_alloc ?_ _));refine blk_put (cs:=#[.slice Ao38 t420.length co38,.int .i64 t423,.int .i64 0,.int .i64 0,.string (⟨#[]⟩:ByteArray),.int .i64 0]) ?_ 2 _ rfl;(with_reducible repeat (first|refine blk_drewN ?_ _|refine blk_drew ?_|refine blk_alloc ?_ _));refine blk_put (cs:=#[.slice Ao38 t420.length co38,.int .i64 0,.int .i64 0,.int .i64 0,.string (⟨#[]⟩:ByteArray),.int .i64 0]) ?_ 1 _ rfl;(with_reducible repeat (first|refine blk_drewN ?_ _|refine blk_drew ?_|refine blk_alloc ?_ _));refine blk_put (cs:=#[.slice none 0 0,.int .i64 0,.int .i64 0,.int .i64 0,.string (⟨#[]⟩:ByteArray),.int .i64 0]) ?_ 0 _ rfl;(with_reducible repeat (first|refine blk_drewN ?_ _|refine blk_drew ?_|refine blk_alloc ?_ _));exact BK391.out) Try.underlying29 rfl (by kernel_rfl)) rfl ?_
   exact ⟨_,by first|rfl|(simp [errW_none,errW_some] <;> rfl)|(simp [*,errW_none,errW_some] <;> rfl),by (with_reducible repeat (first|apply Kd.R_alloc|apply Kd.R_drewN|apply Kd.R_drew));exact Kd.R_mono (Kd.R_far (p:=⟨gb391,5,none⟩) (Kd.R_far (p:=⟨gb391,4,none⟩) (Kd.R_far (p:=⟨gb391,3,none⟩) (Kd.R_far (p:=⟨gb391,2,none⟩) (Kd.R_far (p:=⟨gb391,1,none⟩) (Kd.R_far (p:=⟨gb391,0,none⟩) (Kd.R_types HO422.out BK391.out (by decide)) (fun _ hk=>hk.2) (.slice Ao38 t420.length co38)) (fun _ hk=>hk.2) (.int .i64 t423)) (fun _ hk=>hk.2) (.int .i64 t424)) (fun _ hk=>hk.2) (.int .i64 t425)) (fun _ hk=>hk.2) (.string t426)) (fun _ hk=>hk.2) (.int .i64 t427)) (fun _ hk=>trivial),by repeat (first|(with_reducible first|exact HB.out|apply below_alloc|apply pw_below_drewN|apply below_drew1|refine below_set ?_ GE391.out)|exact HB.out)⟩
def spec_l03Drop.l0:Nat→List (S25)→Int→List (S25)→Int→Option ((List (S25)))
 | 0,_,_,_,_=>none
 | k + 1,x0,x1,x5,x6=>if x6 < (x0.length:Int) then (if 0≤x6 then (if ((rd_T25 x0 x6).f2) = x1 then (spec_l03Drop.l0 k x0 x1 x5 (wrap64 (x6 + 1))) else (if x5.length < 3518437208883 then (spec_l03Drop.l0 k x0 x1 (x5 ++ [(⟨(rd_T25 x0 x6).f0,(rd_T25 x0 x6).f1,(rd_T25 x0 x6).f2,(rd_T25 x0 x6).f3⟩:S25)]) (wrap64 (x6 + 1))) else (none))) else (none)) else (some x5)
def spec_l03Drop.f (k:Nat) (l0:List (S25)) (a1:Int):Option ((List (S25))):=spec_l03Drop.l0 k l0 a1 (([]:List (S25))) 0
set_option maxHeartbeats 8000000 in
set_option maxRecDepth 100000 in
theorem spec_l03Drop.calls (k:Nat) (A0:Option Addr) (c0:Nat) (l0:List (S25)) (a1:Int) (r:List (S25)) (w:World) (hr0:Kd.C k25 w A0 l0.length l0) (hc0:l0.length≤c0) (h:spec_l03Drop.f k l0 a1 = some r) :
  Calls Try.prog 76 #[.slice A0 l0.length c0,.int .i64 a1] w fun e w'=>∃ v0_:Value,e = .returned (v0_)∧Kd.R k25 25 w' w.heap.size (fun _=>True) v0_ r∧Below w.heap.size w w':=by
 have hu25:=Try.underlying25
 have HR0:=Aside0.mk hr0
 have HC0:=Aside0.mk hc0
 clear hr0 hc0
 have HB:=Aside0.mk (Below.refl w.heap.size w)
 have H:(spec_l03Drop.l0 k l0 a1 (([]:List (S25))) 0) = some r:=h
 clear h
 obtain ⟨y428,hy428⟩:∃ y_:List (S25),y_ = (([]:List (S25))):=⟨_,rfl⟩
 replace H:(spec_l03Drop.l0 k l0 a1 y428 0) = some r:=by first|(rw [hy428];with_reducible exact H)|(have H2_:=(Option.bind_some _ _).symm.trans H;rw [hy428];with_reducible exact H2_)|(have H2_:=(Option.bind_some _ _).symm.trans H;with_reducible exact H2_)|with_reducible exact H|(rw [hy428];exact H)|exact H
 have Ny428:=Aside0.mk hy428
 clear hy428
 have H':=Aside0.mk H
 clear H
 go_enter Try.func76,Try.ntmps76
 go_wp2_with (first|((with_reducible refine gate_dst (N:=7) rfl ?_);refine Kd.R_lit k25 _ 25 ?hg (N:=7) ?hd (xs:=([]:List (S25))) (inner:=[]) (ok:=fun _=>True) (okp:=fun _=>True) ?hr ?hp (fun _ hk=>hk) trivial (Below.refl _ _) (Nat.le_refl _) (by simp) ?_;(case hd=>rfl);(case hg=>rfl);(case hr=>first|(go_simp;done)|(go_simp;rfl));(case hp=>exact (Reps.none _ _));intro v429 w3 ho4 hb hg_ hnew_;clear hg_ hnew_;(first|rw [← Ny428.out] at ho4|(simp only [Int.reduceToNat] at ho4;rw [← Ny428.out] at ho4));have n0_:=Aside0.mk (Kd.R_lower ho4 (below_size (by repeat (first|(with_reducible first|exact HB.out|apply below_alloc|apply pw_below_drewN|apply below_drew1)|exact HB.out))));have n1_:=Aside0.mk (below_step (by repeat (first|(with_reducible first|exact HB.out|apply below_alloc|apply pw_below_drewN|apply below_drew1)|exact HB.out)) hb);clear HB;have HO430:=n0_;have HB:=n1_;clear n0_ n1_;clear hb ho4))
 go_loopg [5,6] k (fun kq v5 v6 w'=>∃ (x5_1:List (S25)) (x6_1:Int),v6 = .int .i64 x6_1∧Aside0 (spec_l03Drop.l0 kq l0 a1 x5_1 x6_1 = some r)∧Aside0 (kq≤k)∧Aside0 (Kd.R k25 25 w' w.heap.size (fun _=>True) v5 x5_1)∧Aside0 (Below w.heap.size w w'))
 case atStart=>exact ⟨(y428),(0),(by first|rfl|(simp;done)|(simp [*];done)),H',⟨Nat.le_refl _⟩,⟨by (with_reducible repeat (first|apply Kd.R_alloc|apply Kd.R_drewN|apply Kd.R_drew));exact HO430.out⟩,⟨by repeat (first|(with_reducible first|exact HB.out|apply below_alloc|apply pw_below_drewN|apply below_drew1)|exact HB.out)⟩⟩
 case round =>
  clear H'
  try clear p2
  obtain ⟨x5_1,x6_1,rfl,HA,HK1,HO_5,HB⟩:=hrel
  cases gk with
  | zero=>exact absurd HA.out (by simp [spec_l03Drop.l0])
  | succ k1 =>
   have H:=HA.out
   clear HA
   simp only [spec_l03Drop.l0] at H
   by_cases c5:x6_1 < (l0.length:Int)
   ·rw [if_pos c5] at H
    have c5b0:decide (x6_1 < (l0.length:Int)) = true:=decide_eq_true c5
    clear c5
    by_cases c6:0≤x6_1
    ·rw [if_pos c6] at H
     have c6b0:decide (0≤x6_1) = true:=decide_eq_true c6
     clear c6
     by_cases c7:((rd_T25 l0 x6_1).f2) = a1
     ·rw [if_pos c7] at H
      have c7b0:(((rd_T25 l0 x6_1).f2) == a1) = true:=beq_iff_eq.mpr c7
      have c7b1:(((rd_T25 l0 x6_1).f2) != a1) = false:=bne_eq_false_iff_eq.mpr c7
      clear c7
      have H':=Aside0.mk H
      clear H
      have p431:0≤(x6_1:Int):=of_decide_eq_true (by first|(with_reducible assumption)|assumption)
      have q431:x6_1 < (l0.length:Int):=of_decide_eq_true (by first|(with_reducible assumption)|assumption)
      obtain ⟨ad431,e431,hx431_0,hx431_1,hx431_2,hx431_3⟩:=at_T25 HR0.out x6_1 p431 q431
      cases e431
      replace hx431_0:=(HB.out.cell (World.block_lt_of_cell? w _ hx431_0)).trans hx431_0
      replace hx431_1:=(HB.out.cell (World.block_lt_of_cell? w _ hx431_1)).trans hx431_1
      replace hx431_2:=(HB.out.cell (World.block_lt_of_cell? w _ hx431_2)).trans hx431_2
      replace hx431_3:=(HB.out.cell (World.block_lt_of_cell? w _ hx431_3)).trans hx431_3
      replace p431:=eq_true p431
      replace q431:=eq_true q431
      go_wp2
      go_roundg k1
      case measure=>have:=HK1.out;omega
      case rel=>exact ⟨(x5_1),(wrap64 (x6_1 + 1)),(by first|rfl|(simp;done)|(simp [*];done)),H',⟨by have:=HK1.out;omega⟩,⟨by (with_reducible repeat (first|apply Kd.R_alloc|apply Kd.R_drewN|apply Kd.R_drew));exact HO_5.out⟩,⟨by repeat (first|(with_reducible first|exact HB.out|apply below_alloc|apply pw_below_drewN|apply below_drew1)|exact HB.out)⟩⟩
     ·rw [if_neg c7] at H
      have c7b0:(((rd_T25 l0 x6_1).f2) == a1) = false:=beq_eq_false_iff_ne.mpr c7
      have c7b1:(((rd_T25 l0 x6_1).f2) != a1) = true:=bne_iff_ne.mpr c7
      by_cases c8:x5_1.length < 3518437208883
      ·rw [if_pos c8] at H
       have LMc8:=Aside0.mk c8
       clear c8
       obtain ⟨y433,hy433⟩:∃ y_:List (S25),y_ = (x5_1 ++ [(⟨(rd_T25 l0 x6_1).f0,(rd_T25 l0 x6_1).f1,(rd_T25 l0 x6_1).f2,(rd_T25 l0 x6_1).f3⟩:S25)]):=⟨_,rfl⟩
       replace H:(spec_l03Drop.l0 k1 l0 a1 y433 (wrap64 (x6_1 + 1))) = some r:=by first|(rw [hy433];with_reducible exact H)|(have H2_:=(Option.bind_some _ _).symm.trans H;rw [hy433];with_reducible exact H2_)|(have H2_:=(Option.bind_some _ _).symm.trans H;with_reducible exact H2_)|with_reducible exact H|(rw [hy433];exact H)|exact H
       have Ny433:=Aside0.mk hy433
       clear hy433
       have H':=Aside0.mk H
       clear H
       have p431:0≤(x6_1:Int):=of_decide_eq_true (by first|(with_reducible assumption)|assumption)
       have q431:x6_1 < (l0.length:Int):=of_decide_eq_true (by first|(with_reducible assumption)|assumption)
       obtain ⟨ad431,e431,hx431_0,hx431_1,hx431_2,hx431_3⟩:=at_T25 HR0.out x6_1 p431 q431
       cases e431
       replace hx431_0:=(HB.out.cell (World.block_lt_of_cell? w _ hx431_0)).trans hx431_0
       replace hx431_1:=(HB.out.cell (World.block_lt_of_cell? w _ hx431_1)).trans hx431_1
       replace hx431_2:=(HB.out.cell (World.block_lt_of_cell? w _ hx431_2)).trans hx431_2
       replace hx431_3:=(HB.out.cell (World.block_lt_of_cell? w _ hx431_3)).trans hx431_3
       replace p431:=eq_true p431
       replace q431:=eq_true q431
       have p432:0≤(x6_1:Int):=of_decide_eq_true (by first|(with_reducible assumption)|assumption)
       have q432:x6_1 < (l0.length:Int):=of_decide_eq_true (by first|(with_reducible assumption)|assumption)
       obtain ⟨ad432,e432,hx432_0,hx432_1,hx432_2,hx432_3⟩:=at_T25 HR0.out x6_1 p432 q432
       obtain rfl:ad431 = ad432:=(by injection e432)
       replace hx432_0:=(HB.out.cell (World.block_lt_of_cell? w _ hx432_0)).trans hx432_0
       replace hx432_1:=(HB.out.cell (World.block_lt_of_cell? w _ hx432_1)).trans hx432_1
       replace hx432_2:=(HB.out.cell (World.block_lt_of_cell? w _ hx432_2)).trans hx432_2
       replace hx432_3:=(HB.out.cell (World.block_lt_of_cell? w _ hx432_3)).trans hx432_3
       replace p432:=eq_true p432
       replace q432:=eq_true q432
       go_wp2_with (first|((with_reducible refine gate_builtin (b:=.append) (xs:=#[.tmp 21,.tmp 26]) rfl ?_);at_builtin;refine Kd.R_append k25 (w0:=w) w.heap.size rfl (.tmp 21) (.tmp 26) 23 25 (.agg #[(.int .i64 0),(.int .i64 0),(.int .i64 0),(.string ⟨#[]⟩)]) 40 rfl Try.underlying23 info25 rfl (by decide) (by omega) u5 x5_1 (⟨(rd_T25 l0 x6_1).f0,(rd_T25 l0 x6_1).f1,(rd_T25 l0 x6_1).f2,(rd_T25 l0 x6_1).f3⟩:S25) [.int .i64 ((rd_T25 l0 x6_1).f0),.int .i64 ((rd_T25 l0 x6_1).f1),.int .i64 ((rd_T25 l0 x6_1).f2),.string ((rd_T25 l0 x6_1).f3)] (fun _=>True) (fun _=>False) rfl rfl ?aP (fun _ hk=>hk.elim) ?aF ?aO ?aB ?aS ?aL ?_;(case aP=>exact k25_mkM _ _ _ (⟨(rd_T25 l0 x6_1).f0,(rd_T25 l0 x6_1).f1,(rd_T25 l0 x6_1).f2,(rd_T25 l0 x6_1).f3⟩:S25));(case aB=>exact (by repeat (first|(with_reducible first|exact HB.out|apply below_alloc|apply pw_below_drewN|apply below_drew1)|exact HB.out)));(case aF=>exact (fun _ _=>trivial));(case aO=>exact (by (with_reducible repeat (first|apply Kd.R_alloc|apply Kd.R_drewN|apply Kd.R_drew));exact HO_5.out));(case aS=>exact (below_size (by repeat (first|(with_reducible first|exact HB.out|apply below_alloc|apply pw_below_drewN|apply below_drew1)|exact HB.out))));(case aL=>have:=LMc8.out;omega);intro v434 w9 ho hb hg hat;rw [← Ny433.out] at ho;have n0_:=Aside0.mk (hb);have n1_:=Aside0.mk (ho);clear HB;clear HO_5;have HB:=n0_;have HO435:=n1_;clear n0_ n1_;clear ho hb hg hat))
       go_roundg k1
       case measure=>have:=HK1.out;omega
       case rel=>exact ⟨(y433),(wrap64 (x6_1 + 1)),(by first|rfl|(simp;done)|(simp [*];done)),H',⟨by have:=HK1.out;omega⟩,⟨by (with_reducible repeat (first|apply Kd.R_alloc|apply Kd.R_drewN|apply Kd.R_drew));exact HO435.out⟩,⟨by repeat (first|(with_reducible first|exact HB.out|apply below_alloc|apply pw_below_drewN|apply below_drew1)|exact HB.out)⟩⟩
      ·rw [if_neg c8] at H
       exact absurd H (by simp)
    ·rw [if_neg c6] at H
     exact absurd H (by simp)
   ·rw [if_neg c5] at H
    have c5b0:decide (x6_1 < (l0.length:Int)) = false:=decide_eq_false c5
    clear c5
    obtain rfl:=Option.some.inj H
    go_wp2
    go_ret
    exact ⟨_,by first|rfl|(simp [errW_none,errW_some] <;> rfl)|(simp [*,errW_none,errW_some] <;> rfl),by (with_reducible repeat (first|apply Kd.R_alloc|apply Kd.R_drewN|apply Kd.R_drew));exact HO_5.out,by repeat (first|(with_reducible first|exact HB.out|apply below_alloc|apply pw_below_drewN|apply below_drew1)|exact HB.out)⟩
def spec_QueueDrop.f (k:Nat) (l0:List (S25)) (a1:Int):Option ((List (S25))×Int×Int×Int×ByteArray×Int):=if (l0.length:Int) > 400 then ((spec_l03Ill.f 2).bind fun bt437=>(some (bt437.1,bt437.2.1,bt437.2.2.1,bt437.2.2.2.1,bt437.2.2.2.2.1,bt437.2.2.2.2.2))) else ((spec_QueueRight.f k l0).bind fun t445=>(if t445 = true then ((spec_l03Drop.f k l0 a1).bind fun t446=>(some (t446,0,0,0,(⟨#[]⟩:ByteArray),0))) else ((spec_l03Ill.f 1).bind fun bt449=>(some (bt449.1,bt449.2.1,bt449.2.2.1,bt449.2.2.2.1,bt449.2.2.2.2.1,bt449.2.2.2.2.2)))))
set_option maxHeartbeats 8000000 in
set_option maxRecDepth 100000 in
theorem spec_QueueDrop.calls (k:Nat) (A0:Option Addr) (c0:Nat) (l0:List (S25)) (a1:Int) (r1:List (S25)) (r2:Int) (r3:Int) (r4:Int) (r5:ByteArray) (r6:Int) (w:World) (hr0:Kd.C k25 w A0 l0.length l0) (hc0:l0.length≤c0) (h:spec_QueueDrop.f k l0 a1 = some (r1,r2,r3,r4,r5,r6)) :
  Calls Try.prog 16 #[.slice A0 l0.length c0,.int .i64 a1] w fun e w'=>∃ v0_:Value,e = .returned (.agg #[v0_,.int .i64 r2,.int .i64 r3,.int .i64 r4,.string r5,.int .i64 r6])∧Kd.R k25 25 w' w.heap.size (fun _=>True) v0_ r1∧Below w.heap.size w w':=by
 have hu29:=Try.underlying29
 have HR0:=Aside0.mk hr0
 have HC0:=Aside0.mk hc0
 clear hr0 hc0
 have HB:=Aside0.mk (Below.refl w.heap.size w)
 have H:(if (l0.length:Int) > 400 then ((spec_l03Ill.f 2).bind fun bt437=>(some (bt437.1,bt437.2.1,bt437.2.2.1,bt437.2.2.2.1,bt437.2.2.2.2.1,bt437.2.2.2.2.2))) else ((spec_QueueRight.f k l0).bind fun t445=>(if t445 = true then ((spec_l03Drop.f k l0 a1).bind fun t446=>(some (t446,0,0,0,(⟨#[]⟩:ByteArray),0))) else ((spec_l03Ill.f 1).bind fun bt449=>(some (bt449.1,bt449.2.1,bt449.2.2.1,bt449.2.2.2.1,bt449.2.2.2.2.1,bt449.2.2.2.2.2)))))) = some (r1,r2,r3,r4,r5,r6):=h
 clear h
 by_cases c3:(l0.length:Int) > 400
 ·rw [if_pos c3] at H
  have c3b0:decide (400 < (l0.length:Int)) = true:=decide_eq_true c3
  have c3b1:decide (400 < l0.length) = true:=decide_eq_true (by omega)
  clear c3
  replace H:=Option.bind_eq_some_iff.mp H
  obtain ⟨⟨t437,t440,t441,t442,t443,t444⟩,A40,H⟩:=H
  replace H:(some (t437,t440,t441,t442,t443,t444)) = some (r1,r2,r3,r4,r5,r6):=H
  have A4:=Aside0.mk A40
  clear A40
  simp only [Option.some.injEq,Prod.mk.injEq] at H
  obtain ⟨rfl,rfl,rfl,rfl,rfl,rfl⟩:=H
  go_enter Try.func16,Try.ntmps16
  go_wp2_with (first|((with_reducible refine gate_dst (N:=4) rfl ?_);refine box_event ?hg (N:=4) ?hd (cs:=#[.slice none 0 0,.int .i64 0,.int .i64 0,.int .i64 0,.string (⟨#[]⟩:ByteArray),.int .i64 0]) (t:=29) ?hr ?_;(case hd=>rfl);(case hg=>rfl);(case hr=>first|(go_simp;done)|(go_simp;rfl));intro gb436 hg w5 hbox hb;have n0_:=Aside0.mk (below_step (by repeat (first|(with_reducible first|exact HB.out|apply below_alloc|apply pw_below_drewN|apply below_drew1)|exact HB.out)) hb);have n1_:=Aside0.mk (hbox);have n2_:=Aside0.mk ((by rw [hg];exact (below_size (by repeat (first|(with_reducible first|exact HB.out|apply below_alloc|apply pw_below_drewN|apply below_drew1)|exact HB.out))):w.heap.size≤gb436));have n3_:=Aside0.mk ((by rw [hg];exact (below_size (by repeat (first|(with_reducible first|exact HB.out|apply below_alloc|apply pw_below_drewN|apply below_drew1)|exact HB.out))):w.heap.size≤gb436));clear HB;have HB:=n0_;have BK436:=n1_;have GW436:=n2_;have GE436:=n3_;clear n0_ n1_ n2_ n3_;clear hb hbox hg)|((with_reducible refine gate_callee (f:=73) rfl ?_);refine goesL_ (some 8) rfl rfl Try.func73 (by kernel_rfl) rfl #[.int .i64 2] rfl (by (try simp only [List.map_toArray,List.map_cons,List.map_nil]);first|done|rfl|(simp only [List.length_drop,List.length_take];rfl)) ?_;(with_reducible refine (spec_l03Ill.calls 2 t437 t440 t441 t442 t443 t444 _ A4.out).mono ?_);rintro e w6 ⟨v438,rfl,ho0,hb⟩;refine ⟨_,rfl,?_⟩;have n0_:=Aside0.mk (Kd.R_lower ho0 (below_size (by repeat (first|(with_reducible first|exact HB.out|apply below_alloc|apply pw_below_drewN|apply below_drew1|refine below_set ?_ GE436.out)|exact HB.out))));have n1_:=Aside0.mk (blk_below (g:=gb436) (o:=.cells #[.slice none 0 0,.int .i64 0,.int .i64 0,.int .i64 0,.string (⟨#[]⟩:ByteArray),.int .i64 0] 29 (0,0)) (by (with_reducible repeat (first|refine blk_drewN ?_ _|refine blk_drew ?_|refine blk_alloc ?_ _));exact BK436.out) hb);have n2_:=Aside0.mk (below_step (by repeat (first|(with_reducible first|exact HB.out|apply below_alloc|apply pw_below_drewN|apply below_drew1|refine below_set ?_ GE436.out)|exact HB.out)) hb);clear BK436;clear HB;have HO439:=n0_;have BK436:=n1_;have HB:=n2_;clear n0_ n1_ n2_;(try clear hb);(try clear hb2);(try clear hk);(try clear hi);(try clear ho0);obtain ⟨Ao7,co7,eo7⟩:=Kd.R_slice HO439.out;subst eo7;have hcz8_0:w6.cell? ⟨gb436,0,none⟩ = some (.slice none 0 0):=(blk_cell BK436.out 0).trans rfl;have hcz8_1:w6.cell? ⟨gb436,1,none⟩ = some (.int .i64 0):=(blk_cell BK436.out 1).trans rfl;have hcz8_2:w6.cell? ⟨gb436,2,none⟩ = some (.int .i64 0):=(blk_cell BK436.out 2).trans rfl;have hcz8_3:w6.cell? ⟨gb436,3,none⟩ = some (.int .i64 0):=(blk_cell BK436.out 3).trans rfl;have hcz8_4:w6.cell? ⟨gb436,4,none⟩ = some (.string (⟨#[]⟩:ByteArray)):=(blk_cell BK436.out 4).trans rfl;have hcz8_5:w6.cell? ⟨gb436,5,none⟩ = some (.int .i64 0):=(blk_cell BK436.out 5).trans rfl;have hfz8_0:=blk_frozen BK436.out 0;have hfz8_1:=blk_frozen BK436.out 1;have hfz8_2:=blk_frozen BK436.out 2;have hfz8_3:=blk_frozen BK436.out 3;have hfz8_4:=blk_frozen BK436.out 4;have hfz8_5:=blk_frozen BK436.out 5))
  refine bodyPost_ret (results_cell_row rfl _ _ gb436 29 #[.slice Ao7 t437.length co7,.int .i64 t440,.int .i64 t441,.int .i64 t442,.string t443,.int .i64 t444] (0,0) _ rfl (by (with_reducible repeat (first|refine blk_drewN ?_ _|refine blk_drew ?_|refine blk_alloc ?_ _));refine blk_put (cs:=#[.slice Ao7 t437.length co7,.int .i64 t440,.int .i64 t441,.int .i64 t442,.string t443,.int .i64 0]) ?_ 5 _ rfl;(with_reducible repeat (first|refine blk_drewN ?_ _|refine blk_drew ?_|refine blk_alloc ?_ _));refine blk_put (cs:=#[.slice Ao7 t437.length co7,.int .i64 t440,.int .i64 t441,.int .i64 t442,.string (⟨#[]⟩:ByteArray),.int .i64 0]) ?_ 4 _ rfl;(with_reducible repeat (first|refine blk_drewN ?_ _|refine blk_drew ?_|refine blk_alloc ?_ _));refine blk_put (cs:=#[.slice Ao7 t437.length co7,.int .i64 t440,.int .i64 t441,.int .i64 0,.string (⟨#[]⟩:ByteArray),.int .i64 0]) ?_ 3 _ rfl;(with_reducible repeat (first|refine blk_drewN ?_ _|refine blk_drew ?_|refine blk_alloc ?_ _));refine blk_put (cs:=#[.slice Ao7 t437.length co7,.int .i64 t440,.int .i64 0,.int .i64 0,.string (⟨#[]⟩:ByteArray),.int .i64 0]) ?_ 2 _ rfl;(with_reducible repeat (first|refine blk_drewN ?_ _|refine blk_drew ?_|refine blk_alloc ?_ _));refine blk_put (cs:=#[.slice Ao7 t437.length co7,.int .i64 0,.int .i64 0,.int .i64 0,.string (⟨#[]⟩:ByteArray),.int .i64 0]) ?_ 1 _ rfl;(with_reducible repeat (first|refine blk_drewN ?_ _|refine blk_drew ?_|refine blk_alloc ?_ _));refine blk_put (cs:=#[.slice none 0 0,.int .i64 0,.int .i64 0,.int .i64 0,.string (⟨#[]⟩:ByteArray),.int .i64 0]) ?_ 0 _ rfl;(with_reducible repeat (first|refine blk_drewN ?_ _|refine blk_drew ?_|refine blk_alloc ?_ _));exact BK436.out) Try.underlying29 rfl (by kernel_rfl)) rfl ?_
  exact ⟨_,by first|rfl|(simp [errW_none,errW_some] <;> rfl)|(simp [*,errW_none,errW_some] <;> rfl),by (with_reducible repeat (first|apply Kd.R_alloc|apply Kd.R_drewN|apply Kd.R_drew));exact Kd.R_mono (Kd.R_far (p:=⟨gb436,5,none⟩) (Kd.R_far (p:=⟨gb436,4,none⟩) (Kd.R_far (p:=⟨gb436,3,none⟩) (Kd.R_far (p:=⟨gb436,2,none⟩) (Kd.R_far (p:=⟨gb436,1,none⟩) (Kd.R_far (p:=⟨gb436,0,none⟩) (Kd.R_types HO439.out BK436.out (by decide)) (fun _ hk=>hk.2) (.slice Ao7 t437.length co7)) (fun _ hk=>hk.2) (.int .i64 t440)) (fun _ hk=>hk.2) (.int .i64 t441)) (fun _ hk=>hk.2) (.int .i64 t442)) (fun _ hk=>hk.2) (.string t443)) (fun _ hk=>hk.2) (.int .i64 t444)) (fun _ hk=>trivial),by repeat (first|(with_reducible first|exact HB.out|apply below_alloc|apply pw_below_drewN|apply below_drew1|refine below_set ?_ GE436.out)|exact HB.out)⟩
 ·rw [if_neg c3] at H
  have c3b0:decide (400 < (l0.length:Int)) = false:=decide_eq_false c3
  have c3b1:decide (400 < l0.length) = false:=decide_eq_false (by omega)
  clear c3
  replace H:=Option.bind_eq_some_iff.mp H
  obtain ⟨t445,A90,H⟩:=H
  replace H:(if t445 = true then ((spec_l03Drop.f k l0 a1).bind fun t446=>(some (t446,0,0,0,(⟨#[]⟩:ByteArray),0))) else ((spec_l03Ill.f 1).bind fun bt449=>(some (bt449.1,bt449.2.1,bt449.2.2.1,bt449.2.2.2.1,bt449.2.2.2.2.1,bt449.2.2.2.2.2)))) = some (r1,r2,r3,r4,r5,r6):=H
  have A9:=Aside0.mk A90
  clear A90
  by_cases c10:t445 = true
  ·subst c10
   have H1:((spec_l03Drop.f k l0 a1).bind fun t446=>(some (t446,0,0,0,(⟨#[]⟩:ByteArray),0))) = some (r1,r2,r3,r4,r5,r6):=by rw [if_pos rfl] at H;exact H
   clear H
   have H:=H1
   clear H1
   replace H:=Option.bind_eq_some_iff.mp H
   obtain ⟨t446,A110,H⟩:=H
   replace H:(some (t446,0,0,0,(⟨#[]⟩:ByteArray),0)) = some (r1,r2,r3,r4,r5,r6):=H
   have A11:=Aside0.mk A110
   clear A110
   simp only [Option.some.injEq,Prod.mk.injEq] at H
   obtain ⟨rfl,rfl,rfl,rfl,rfl,rfl⟩:=H
   go_enter Try.func16,Try.ntmps16
   go_wp2_with (first|((with_reducible refine gate_dst (N:=4) rfl ?_);refine box_event ?hg (N:=4) ?hd (cs:=#[.slice none 0 0,.int .i64 0,.int .i64 0,.int .i64 0,.string (⟨#[]⟩:ByteArray),.int .i64 0]) (t:=29) ?hr ?_;(case hd=>rfl);(case hg=>rfl);(case hr=>first|(go_simp;done)|(go_simp;rfl));intro gb436 hg w12 hbox hb;have n0_:=Aside0.mk (below_step (by repeat (first|(with_reducible first|exact HB.out|apply below_alloc|apply pw_below_drewN|apply below_drew1)|exact HB.out)) hb);have n1_:=Aside0.mk (hbox);have n2_:=Aside0.mk ((by rw [hg];exact (below_size (by repeat (first|(with_reducible first|exact HB.out|apply below_alloc|apply pw_below_drewN|apply below_drew1)|exact HB.out))):w.heap.size≤gb436));have n3_:=Aside0.mk ((by rw [hg];exact (below_size (by repeat (first|(with_reducible first|exact HB.out|apply below_alloc|apply pw_below_drewN|apply below_drew1)|exact HB.out))):w.heap.size≤gb436));clear HB;have HB:=n0_;have BK436:=n1_;have GW436:=n2_;have GE436:=n3_;clear n0_ n1_ n2_ n3_;clear hb hbox hg)|((with_reducible refine gate_callee (f:=18) rfl ?_);refine goesL_ (some 10) rfl rfl Try.func18 (by kernel_rfl) rfl #[.slice A0 l0.length c0] rfl (by (try simp only [List.map_toArray,List.map_cons,List.map_nil]);first|done|rfl|(simp only [List.length_drop,List.length_take];rfl)) ?_;(with_reducible refine (spec_QueueRight.calls k _ _ l0 true _ ?side1 ?side2 A9.out).mono ?_);(case side1=>repeat (first|exact (Kd.C_below HR0.out HB.out)|(with_reducible refine Kd.C_alloc ?_ _)|(with_reducible refine Kd.C_drewN ?_ _)|(with_reducible refine Kd.C_drew ?_)));(case side2=>exact HC0.out);rintro e w13 ⟨rfl,hb⟩;refine ⟨_,rfl,?_⟩;have n0_:=Aside0.mk (blk_below (g:=gb436) (o:=.cells #[.slice none 0 0,.int .i64 0,.int .i64 0,.int .i64 0,.string (⟨#[]⟩:ByteArray),.int .i64 0] 29 (0,0)) (by (with_reducible repeat (first|refine blk_drewN ?_ _|refine blk_drew ?_|refine blk_alloc ?_ _));exact BK436.out) hb);have n1_:=Aside0.mk (below_step (by repeat (first|(with_reducible first|exact HB.out|apply below_alloc|apply pw_below_drewN|apply below_drew1|refine below_set ?_ GE436.out)|exact HB.out)) hb);clear BK436;clear HB;have BK436:=n0_;have HB:=n1_;clear n0_ n1_;(try clear hb);(try clear hb2);(try clear hk);(try clear hi))|((with_reducible refine gate_callee (f:=76) rfl ?_);refine goesL_ (some 15) rfl rfl Try.func76 (by kernel_rfl) rfl #[.slice A0 l0.length c0,.int .i64 a1] rfl (by (try simp only [List.map_toArray,List.map_cons,List.map_nil]);first|done|rfl|(simp only [List.length_drop,List.length_take];rfl)) ?_;(with_reducible refine (spec_l03Drop.calls k _ _ l0 a1 t446 _ ?side1 ?side2 A11.out).mono ?_);(case side1=>repeat (first|exact (Kd.C_below HR0.out HB.out)|(with_reducible refine Kd.C_alloc ?_ _)|(with_reducible refine Kd.C_drewN ?_ _)|(with_reducible refine Kd.C_drew ?_)));(case side2=>exact HC0.out);rintro e w14 ⟨v447,rfl,ho0,hb⟩;refine ⟨_,rfl,?_⟩;have n0_:=Aside0.mk (Kd.R_lower ho0 (below_size (by repeat (first|(with_reducible first|exact HB.out|apply below_alloc|apply pw_below_drewN|apply below_drew1|refine below_set ?_ GE436.out)|exact HB.out))));have n1_:=Aside0.mk (blk_below (g:=gb436) (o:=.cells #[.slice none 0 0,.int .i64 0,.int .i64 0,.int .i64 0,.string (⟨#[]⟩:ByteArray),.int .i64 0] 29 (0,0)) (by (with_reducible repeat (first|refine blk_drewN ?_ _|refine blk_drew ?_|refine blk_alloc ?_ _));exact BK436.out) hb);have n2_:=Aside0.mk (below_step (by repeat (first|(with_reducible first|exact HB.out|apply below_alloc|apply pw_below_drewN|apply below_drew1|refine below_set ?_ GE436.out)|exact HB.out)) hb);clear BK436;clear HB;have HO448:=n0_;have BK436:=n1_;have HB:=n2_;clear n0_ n1_ n2_;(try clear hb);(try clear hb2);(try clear hk);(try clear hi);(try clear ho0);obtain ⟨Ao15,co15,eo15⟩:=Kd.R_slice HO448.out;subst eo15;have hcz16_0:w14.cell? ⟨gb436,0,none⟩ = some (.slice none 0 0):=(blk_cell BK436.out 0).trans rfl;have hcz16_1:w14.cell? ⟨gb436,1,none⟩ = some (.int .i64 0):=(blk_cell BK436.out 1).trans rfl;have hcz16_2:w14.cell? ⟨gb436,2,none⟩ = some (.int .i64 0):=(blk_cell BK436.out 2).trans rfl;have hcz16_3:w14.cell? ⟨gb436,3,none⟩ = some (.int .i64 0):=(blk_cell BK436.out 3).trans rfl;have hcz16_4:w14.cell? ⟨gb436,4,none⟩ = some (.string (⟨#[]⟩:ByteArray)):=(blk_cell BK436.out 4).trans rfl;have hcz16_5:w14.cell? ⟨gb436,5,none⟩ = some (.int .i64 0):=(blk_cell BK436.out 5).trans rfl;have hfz16_0:=blk_frozen BK436.out 0;have hfz16_1:=blk_frozen BK436.out 1;have hfz16_2:=blk_frozen BK436.out 2;have hfz16_3:=blk_frozen BK436.out 3;have hfz16_4:=blk_frozen BK436.out 4;have hfz16_5:=blk_frozen BK436.out 5))
   refine bodyPost_ret (results_cell_row rfl _ _ gb436 29 #[.slice Ao15 t446.length co15,.int .i64 0,.int .i64 0,.int .i64 0,.string (⟨#[]⟩:ByteArray),.int .i64 0] (0,0) _ rfl (by (with_reducible repeat (first|refine blk_drewN ?_ _|refine blk_drew ?_|refine blk_alloc ?_ _));refine blk_put (cs:=#[.slice Ao15 t446.length co15,.int .i64 0,.int .i64 0,.int .i64 0,.string (⟨#[]⟩:ByteArray),.int .i64 0]) ?_ 5 _ rfl;(with_reducible repeat (first|refine blk_drewN ?_ _|refine blk_drew ?_|refine blk_alloc ?_ _));refine blk_put (cs:=#[.slice Ao15 t446.length co15,.int .i64 0,.int .i64 0,.int .i64 0,.string (⟨#[]⟩:ByteArray),.int .i64 0]) ?_ 4 _ rfl;(with_reducible repeat (first|refine blk_drewN ?_ _|refine blk_drew ?_|refine blk_alloc ?_ _));refine blk_put (cs:=#[.slice Ao15 t446.length co15,.int .i64 0,.int .i64 0,.int .i64 0,.string (⟨#[]⟩:ByteArray),.int .i64 0]) ?_ 3 _ rfl;(with_reducible repeat (first|refine blk_drewN ?_ _|refine blk_drew ?_|refine blk_alloc ?_ _));refine blk_put (cs:=#[.slice Ao15 t446.length co15,.int .i64 0,.int .i64 0,.int .i64 0,.string (⟨#[]⟩:ByteArray),.int .i64 0]) ?_ 2 _ rfl;(with_reducible repeat (first|refine blk_drewN ?_ _|refine blk_drew ?_|refine blk_alloc ?_ _));refine blk_put (cs:=#[.slice Ao15 t446.length co15,.int .i64 0,.int .i64 0,.int .i64 0,.string (⟨#[]⟩:ByteArray),.int .i64 0]) ?_ 1 _ rfl;(with_reducible repeat (first|refine blk_drewN ?_ _|refine blk_drew ?_|refine blk_alloc ?_ _));refine blk_put (cs:=#[.slice none 0 0,.int .i64 0,.int .i64 0,.int .i64 0,.string (⟨#[]⟩:ByteArray),.int .i64 0]) ?_ 0 _ rfl;(with_reducible repeat (first|refine blk_drewN ?_ _|refine blk_drew ?_|refine blk_alloc ?_ _));exact BK436.out) Try.underlying29 rfl (by kernel_rfl)) rfl ?_
   exact ⟨_,by first|rfl|(simp [errW_none,errW_some] <;> rfl)|(simp [*,errW_none,errW_some] <;> rfl),by (with_reducible repeat (first|apply Kd.R_alloc|apply Kd.R_drewN|apply Kd.R_drew));exact Kd.R_mono (Kd.R_far (p:=⟨gb436,5,none⟩) (Kd.R_far (p:=⟨gb436,4,none⟩) (Kd.R_far (p:=⟨gb436,3,none⟩) (Kd.R_far (p:=⟨gb436,2,none⟩) (Kd.R_far (p:=⟨gb436,1,none⟩) (Kd.R_far (p:=⟨gb436,0,none⟩) (Kd.R_types HO448.out BK436.out (by decide)) (fun _ hk=>hk.2) (.slice Ao15 t446.length co15)) (fun _ hk=>hk.2) (.int .i64 0)) (fun _ hk=>hk.2) (.int .i64 0)) (fun _ hk=>hk.2) (.int .i64 0)) (fun _ hk=>hk.2) (.string (⟨#[]⟩:ByteArray))) (fun _ hk=>hk.2) (.int .i64 0)) (fun _ hk=>trivial),by repeat (first|(with_reducible first|exact HB.out|apply below_alloc|apply pw_below_drewN|apply below_drew1|refine below_set ?_ GE436.out)|exact HB.out)⟩
  ·replace c10:=Bool.eq_false_iff.mpr c10
   subst c10
   have H1:((spec_l03Ill.f 1).bind fun bt449=>(some (bt449.1,bt449.2.1,bt449.2.2.1,bt449.2.2.2.1,bt449.2.2.2.2.1,bt449.2.2.2.2.2))) = some (r1,r2,r3,r4,r5,r6):=by rw [if_neg (show ¬ (false = true) by decide)] at H;exact H
   clear H
   have H:=H1
   clear H1
   replace H:=Option.bind_eq_some_iff.mp H
   obtain ⟨⟨t449,t452,t453,t454,t455,t456⟩,A170,H⟩:=H
   replace H:(some (t449,t452,t453,t454,t455,t456)) = some (r1,r2,r3,r4,r5,r6):=H
   have A17:=Aside0.mk A170
   clear A170
   simp only [Option.some.injEq,Prod.mk.injEq] at H
   obtain ⟨rfl,rfl,rfl,rfl,rfl,rfl⟩:=H
   go_enter Try.func16,Try.ntmps16
   go_wp2_with (first|((with_reducible refine gate_dst (N:=4) rfl ?_);refine box_event ?hg (N:=4) ?hd (cs:=#[.slice none 0 0,.int .i64 0,.int .i64 0,.int .i64 0,.string (⟨#[]⟩:ByteArray),.int .i64 0]) (t:=29) ?hr ?_;(case hd=>rfl);(case hg=>rfl);(case hr=>first|(go_simp;done)|(go_simp;rfl));intro gb436 hg w18 hbox hb;have n0_:=Aside0.mk (below_step (by repeat (first|(with_reducible first|exact HB.out|apply below_alloc|apply pw_below_drewN|apply below_drew1)|exact HB.out)) hb);have n1_:=Aside0.mk (hbox);have n2_:=Aside0.mk ((by rw [hg];exact (below_size (by repeat (first|(with_reducible first|exact HB.out|apply below_alloc|apply pw_below_drewN|apply below_drew1)|exact HB.out))):w.heap.size≤gb436));have n3_:=Aside0.mk ((by rw [hg];exact (below_size (by repeat (first|(with_reducible first|exact HB.out|apply below_alloc|apply pw_below_drewN|apply below_drew1)|exact HB.out))):w.heap.size≤gb436));clear HB;have HB:=n0_;have BK436:=n1_;have GW436:=n2_;have GE436:=n3_;clear n0_ n1_ n2_ n3_;clear hb hbox hg)|((with_reducible refine gate_callee (f:=18) rfl ?_);refine goesL_ (some 10) rfl rfl Try.func18 (by kernel_rfl) rfl #[.slice A0 l0.length c0] rfl (by (try simp only [List.map_toArray,List.map_cons,List.map_nil]);first|done|rfl|(simp only [List.length_drop,List.length_take];rfl)) ?_;(with_reducible refine (spec_QueueRight.calls k _ _ l0 false _ ?side1 ?side2 A9.out).mono ?_);(case side1=>repeat (first|exact (Kd.C_below HR0.out HB.out)|(with_reducible refine Kd.C_alloc ?_ _)|(with_reducible refine Kd.C_drewN ?_ _)|(with_reducible refine Kd.C_drew ?_)));(case side2=>exact HC0.out);rintro e w19 ⟨rfl,hb⟩;refine ⟨_,rfl,?_⟩;have n0_:=Aside0.mk (blk_below (g:=gb436) (o:=.cells #[.slice none 0 0,.int .i64 0,.int .i64 0,.int .i64 0,.string (⟨#[]⟩:ByteArray),.int .i64 0] 29 (0,0)) (by (with_reducible repeat (first|refine blk_drewN ?_ _|refine blk_drew ?_|refine blk_alloc ?_ _));exact BK436.out) hb);have n1_:=Aside0.mk (below_step (by repeat (first|(with_reducible first|exact HB.out|apply below_alloc|apply pw_below_drewN|apply below_drew1|refine below_set ?_ GE436.out)|exact HB.out)) hb);clear BK436;clear HB;have BK436:=n0_;have HB:=n1_;clear n0_ n1_;(try clear hb);(try clear hb2);(try clear hk);(try clear hi))|((with_reducible refine gate_callee (f:=73) rfl ?_);refine goesL_ (some 12) rfl rfl Try.func73 (by kernel_rfl) rfl #[.int .i64 1] rfl (by (try simp only [List.map_toArray,List.map_cons,List.map_nil]);first|done|rfl|(simp only [List.length_drop,List.length_take];rfl)) ?_;(with_reducible refine (spec_l03Ill.calls 1 t449 t452 t453 t454 t455 t456 _ A17.out).mono ?_);rintro e w20 ⟨v450,rfl,ho0,hb⟩;refine ⟨_,rfl,?_⟩;have n0_:=Aside0.mk (Kd.R_lower ho0 (below_size (by repeat (first|(with_reducible first|exact HB.out|apply below_alloc|apply pw_below_drewN|apply below_drew1|refine below_set ?_ GE436.out)|exact HB.out))));have n1_:=Aside0.mk (blk_below (g:=gb436) (o:=.cells #[.slice none 0 0,.int .i64 0,.int .i64 0,.int .i64 0,.string (⟨#[]⟩:ByteArray),.int .i64 0] 29 (0,0)) (by (with_reducible repeat (first|refine blk_drewN ?_ _|refine blk_drew ?_|refine blk_alloc ?_ _));exact BK436.out) hb);have n2_:=Aside0.mk (below_step (by repeat (first|(with_reducible first|exact HB.out|apply below_alloc|apply pw_below_drewN|apply below_drew1|refine below_set ?_ GE436.out)|exact HB.out)) hb);clear BK436;clear HB;have HO451:=n0_;have BK436:=n1_;have HB:=n2_;clear n0_ n1_ n2_;(try clear hb);(try clear hb2);(try clear hk);(try clear hi);(try clear ho0);obtain ⟨Ao21,co21,eo21⟩:=Kd.R_slice HO451.out;subst eo21;have hcz22_0:w20.cell? ⟨gb436,0,none⟩ = some (.slice none 0 0):=(blk_cell BK436.out 0).trans rfl;have hcz22_1:w20.cell? ⟨gb436,1,none⟩ = some (.int .i64 0):=(blk_cell BK436.out 1).trans rfl;have hcz22_2:w20.cell? ⟨gb436,2,none⟩ = some (.int .i64 0):=(blk_cell BK436.out 2).trans rfl;have hcz22_3:w20.cell? ⟨gb436,3,none⟩ = some (.int .i64 0):=(blk_cell BK436.out 3).trans rfl;have hcz22_4:w20.cell? ⟨gb436,4,none⟩ = some (.string (⟨#[]⟩:ByteArray)):=(blk_cell BK436.out 4).trans rfl;have hcz22_5:w20.cell? ⟨gb436,5,none⟩ = some (.int .i64 0):=(blk_cell BK436.out 5).trans rfl;have hfz22_0:=blk_frozen BK436.out 0;have hfz22_1:=blk_frozen BK436.out 1;have hfz22_2:=blk_frozen BK436.out 2;have hfz22_3:=blk_frozen BK436.out 3;have hfz22_4:=blk_frozen BK436.out 4;have hfz22_5:=blk_frozen BK436.out 5))
   refine bodyPost_ret (results_cell_row rfl _ _ gb436 29 #[.slice Ao21 t449.length co21,.int .i64 t452,.int .i64 t453,.int .i64 t454,.string t455,.int .i64 t456] (0,0) _ rfl (by (with_reducible repeat (first|refine blk_drewN ?_ _|refine blk_drew ?_|refine blk_alloc ?_ _));refine blk_put (cs:=#[.slice Ao21 t449.length co21,.int .i64 t452,.int .i64 t453,.int .i64 t454,.string t455,.int .i64 0]) ?_ 5 _ rfl;(with_reducible repeat (first|refine blk_drewN ?_ _|refine blk_drew ?_|refine blk_alloc ?_ _));refine blk_put (cs:=#[.slice Ao21 t449.length co21,.int .i64 t452,.int .i64 t453,.int .i64 t454,.string (⟨#[]⟩:ByteArray),.int .i64 0]) ?_ 4 _ rfl;(with_reducible repeat (first|refine blk_drewN ?_ _|refine blk_drew ?_|refine blk_alloc ?_ _));refine blk_put (cs:=#[.slice Ao21 t449.length co21,.int .i64 t452,.int .i64 t453,.int .i64 0,.string (⟨#[]⟩:ByteArray),.int .i64 0]) ?_ 3 _ rfl;(with_reducible repeat (first|refine blk_drewN ?_ _|refine blk_drew ?_|refine blk_alloc ?_ _));refine blk_put (cs:=#[.slice Ao21 t449.length co21,.int .i64 t452,.int .i64 0,.int .i64 0,.string (⟨#[]⟩:ByteArray),.int .i64 0]) ?_ 2 _ rfl;(with_reducible repeat (first|refine blk_drewN ?_ _|refine blk_drew ?_|refine blk_alloc ?_ _));refine blk_put (cs:=#[.slice Ao21 t449.length co21,.int .i64 0,.int .i64 0,.int .i64 0,.string (⟨#[]⟩:ByteArray),.int .i64 0]) ?_ 1 _ rfl;(with_reducible repeat (first|refine blk_drewN ?_ _|refine blk_drew ?_|refine blk_alloc ?_ _));refine blk_put (cs:=#[.slice none 0 0,.int .i64 0,.int .i64 0,.int .i64 0,.string (⟨#[]⟩:ByteArray),.int .i64 0]) ?_ 0 _ rfl;(with_reducible repeat (first|refine blk_drewN ?_ _|refine blk_drew ?_|refine blk_alloc ?_ _));exact BK436.out) Try.underlying29 rfl (by kernel_rfl)) rfl ?_
   exact ⟨_,by first|rfl|(simp [errW_none,errW_some] <;> rfl)|(simp [*,errW_none,errW_some] <;> rfl),by (with_reducible repeat (first|apply Kd.R_alloc|apply Kd.R_drewN|apply Kd.R_drew));exact Kd.R_mono (Kd.R_far (p:=⟨gb436,5,none⟩) (Kd.R_far (p:=⟨gb436,4,none⟩) (Kd.R_far (p:=⟨gb436,3,none⟩) (Kd.R_far (p:=⟨gb436,2,none⟩) (Kd.R_far (p:=⟨gb436,1,none⟩) (Kd.R_far (p:=⟨gb436,0,none⟩) (Kd.R_types HO451.out BK436.out (by decide)) (fun _ hk=>hk.2) (.slice Ao21 t449.length co21)) (fun _ hk=>hk.2) (.int .i64 t452)) (fun _ hk=>hk.2) (.int .i64 t453)) (fun _ hk=>hk.2) (.int .i64 t454)) (fun _ hk=>hk.2) (.string t455)) (fun _ hk=>hk.2) (.int .i64 t456)) (fun _ hk=>trivial),by repeat (first|(with_reducible first|exact HB.out|apply below_alloc|apply pw_below_drewN|apply below_drew1|refine below_set ?_ GE436.out)|exact HB.out)⟩
end Go.Proofs.Ytaiiikfeaokmhaa.PFnQueue
