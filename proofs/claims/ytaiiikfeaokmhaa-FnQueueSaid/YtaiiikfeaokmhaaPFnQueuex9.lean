import Derived.Test.YtaiiikfeaokmhaaPFnQueuex0
import Derived.Test.YtaiiikfeaokmhaaPFnQueuex8
namespace Go.Proofs.Ytaiiikfeaokmhaa.PFnQueue
open Go.RowKit Go.Proofs.YtaiiikfeaokmhaaW.PrintWords Go.Proofs.YtaiiikfeaokmhaaW.PrintLast Go.Proofs.YtaiiikfeaokmhaaW.PrintMore
attribute [local go_sem] max2_int min2_int max_two min_two max_three min_three max_four min_four   -- for this text's walks alone
set_option linter.unusedVariables false
set_option linter.unusedSimpArgs false
def impl_QueueRight.l0:Nat→List (S25)→List (S25)→Int→Int→Option (Bool)
 | 0,_,_,_,_=>none
 | k + 1,x0,x8,x9,x10=>if x10 < x9 then (if 0≤x10 then (if x10 < (x8.length:Int) then ((impl_isDue.f ((rd_T25 x8 x10).f0) ((rd_T25 x8 x10).f1) ((rd_T25 x8 x10).f2) ((rd_T25 x8 x10).f3)).bind fun t344=>(if t344 = true then (if x10 > 0 then (if 0≤(wrap64 (x10 - 1)) then (if (wrap64 (x10 - 1)) < (x0.length:Int) then ((impl_dueOrder.f k ((rd_T25 x0 (wrap64 (x10 - 1))).f0) ((rd_T25 x0 (wrap64 (x10 - 1))).f1) ((rd_T25 x0 (wrap64 (x10 - 1))).f2) ((rd_T25 x0 (wrap64 (x10 - 1))).f3) ((rd_T25 x8 x10).f0) ((rd_T25 x8 x10).f1) ((rd_T25 x8 x10).f2) ((rd_T25 x8 x10).f3)).bind fun t346=>(if t346 ≥ 0 then (some false) else (impl_QueueRight.l0 k x0 x8 x9 (wrap64 (x10 + 1))))) else (none)) else (none)) else (impl_QueueRight.l0 k x0 x8 x9 (wrap64 (x10 + 1)))) else (some false))) else (none)) else (none)) else (some true)
def impl_QueueRight.f (k:Nat) (l0:List (S25)):Option (Bool):=if (l0.length:Int) > 200 then (some false) else (impl_QueueRight.l0 k l0 l0 (l0.length:Int) 0)
def impl_QueueRight.T6:Bool×List (List Nat×List Nat):=(true,[([],[]),([0],[0]),([1],[1]),([2,1],[2]),([3],[3]),([4,3],[3,4]),([5,3,3],[3,5]),([6],[6]),([6],[6]),([8,6],[6,8]),([7,9,6],[6,7,9]),([10,6],[6,10]),([6],[6]),([11,12,6,6],[6,11,12]),([13,6],[6,13]),([6,14,3],[3,6,14]),([3,15],[3,15])])
def impl_QueueRight.B6:List Nat:=[0,1,3,7,15,31,63,127,127,383,1023,2047,127,8191,16383,32767,65535]
theorem impl_QueueRight.tab6:rtab .any (opsOf Try.f17 6) = impl_QueueRight.T6:=by kernel_rfl
theorem impl_QueueRight.bits6:waitsOk impl_QueueRight.T6.2 impl_QueueRight.B6 = true:=by kernel_rfl
set_option maxHeartbeats 8000000 in
set_option maxRecDepth 100000 in
theorem impl_QueueRight.calls (k:Nat) (A0:Option Addr) (c0:Nat) (l0:List (S25)) (r:Bool) (w:World) (hr0:Kd.C k25 w A0 l0.length l0) (hc0:l0.length≤c0) (h:impl_QueueRight.f k l0 = some r) :
  Calls Try.prog 17 #[.slice A0 l0.length c0] w fun e w'=>e = .returned (.bool r)∧Below w.heap.size w w':=by
 have hu25:=Try.underlying25
 have HR0:=Aside0.mk hr0
 have HC0:=Aside0.mk hc0
 clear hr0 hc0
 have HB:=Aside0.mk (Below.refl w.heap.size w)
 have H:(if (l0.length:Int) > 200 then (some false) else (impl_QueueRight.l0 k l0 l0 (l0.length:Int) 0)) = some r:=h
 clear h
 by_cases c2:(l0.length:Int) > 200
 ·rw [if_pos c2] at H
  have c2b0:decide (200 < (l0.length:Int)) = true:=decide_eq_true c2
  have c2b1:decide (200 < l0.length) = true:=decide_eq_true (by omega)
  clear c2
  obtain rfl:=Option.some.inj H
  go_enter Try.func17,Try.ntmps17
  go_wp2
  go_ret
  exact ⟨by first|rfl|(simp [errW_none,errW_some] <;> rfl)|(simp [*,errW_none,errW_some] <;> rfl),by repeat (first|(with_reducible first|exact HB.out|apply below_alloc|apply pw_below_drewN|apply below_drew1)|exact HB.out)⟩
 ·rw [if_neg c2] at H
  have c2b0:decide (200 < (l0.length:Int)) = false:=decide_eq_false c2
  have c2b1:decide (200 < l0.length) = false:=decide_eq_false (by omega)
  clear c2
  have H':=Aside0.mk H
  clear H
  go_enter Try.func17,Try.ntmps17
  go_wp2
  go_loopg [10] k (fun kq v10 w'=>∃ (x10_1:Int),v10 = .int .i64 x10_1∧Aside0 (impl_QueueRight.l0 kq l0 l0 (l0.length:Int) x10_1 = some r)∧Aside0 (kq≤k)∧Aside0 (Below w.heap.size w w'))
  case atStart=>exact ⟨(0),(by first|rfl|(simp;done)|(simp [*];done)),H',⟨Nat.le_refl _⟩,⟨by repeat (first|(with_reducible first|exact HB.out|apply below_alloc|apply pw_below_drewN|apply below_drew1)|exact HB.out)⟩⟩
  case round =>
   clear H'
   try clear c1
   try clear c2
   try clear c2b0
   try clear c2b1
   try clear p2
   obtain ⟨x10_1,rfl,HA,HK1,HB⟩:=hrel
   cases gk with
   | zero=>exact absurd HA.out (by simp [impl_QueueRight.l0])
   | succ k1 =>
    have H:=HA.out
    clear HA
    simp only [impl_QueueRight.l0] at H
    by_cases c3:x10_1 < (l0.length:Int)
    ·rw [if_pos c3] at H
     have c3b0:decide (x10_1 < (l0.length:Int)) = true:=decide_eq_true c3
     clear c3
     by_cases c4:0≤x10_1
     ·rw [if_pos c4] at H
      have c4b0:decide (0≤x10_1) = true:=decide_eq_true c4
      clear c4
      by_cases c5:x10_1 < (l0.length:Int)
      ·rw [if_pos c5] at H
       have c5b0:decide (x10_1 < (l0.length:Int)) = true:=decide_eq_true c5
       clear c5
       replace H:=Option.bind_eq_some_iff.mp H
       obtain ⟨t344,A60,H⟩:=H
       replace H:(if t344 = true then (if x10_1 > 0 then (if 0≤(wrap64 (x10_1 - 1)) then (if (wrap64 (x10_1 - 1)) < (l0.length:Int) then ((impl_dueOrder.f k1 ((rd_T25 l0 (wrap64 (x10_1 - 1))).f0) ((rd_T25 l0 (wrap64 (x10_1 - 1))).f1) ((rd_T25 l0 (wrap64 (x10_1 - 1))).f2) ((rd_T25 l0 (wrap64 (x10_1 - 1))).f3) ((rd_T25 l0 x10_1).f0) ((rd_T25 l0 x10_1).f1) ((rd_T25 l0 x10_1).f2) ((rd_T25 l0 x10_1).f3)).bind fun t346=>(if t346 ≥ 0 then (some false) else (impl_QueueRight.l0 k1 l0 l0 (l0.length:Int) (wrap64 (x10_1 + 1))))) else (none)) else (none)) else (impl_QueueRight.l0 k1 l0 l0 (l0.length:Int) (wrap64 (x10_1 + 1)))) else (some false)) = some r:=H
       have A6:=Aside0.mk A60
       clear A60
       by_cases c7:t344 = true
       ·subst c7
        have H1:(if x10_1 > 0 then (if 0≤(wrap64 (x10_1 - 1)) then (if (wrap64 (x10_1 - 1)) < (l0.length:Int) then ((impl_dueOrder.f k1 ((rd_T25 l0 (wrap64 (x10_1 - 1))).f0) ((rd_T25 l0 (wrap64 (x10_1 - 1))).f1) ((rd_T25 l0 (wrap64 (x10_1 - 1))).f2) ((rd_T25 l0 (wrap64 (x10_1 - 1))).f3) ((rd_T25 l0 x10_1).f0) ((rd_T25 l0 x10_1).f1) ((rd_T25 l0 x10_1).f2) ((rd_T25 l0 x10_1).f3)).bind fun t346=>(if t346 ≥ 0 then (some false) else (impl_QueueRight.l0 k1 l0 l0 (l0.length:Int) (wrap64 (x10_1 + 1))))) else (none)) else (none)) else (impl_QueueRight.l0 k1 l0 l0 (l0.length:Int) (wrap64 (x10_1 + 1)))) = some r:=by rw [if_pos rfl] at H;exact H
        clear H
        have H:=H1
        clear H1
        by_cases c8:x10_1 > 0
        ·rw [if_pos c8] at H
         have c8b0:decide (0 < x10_1) = true:=decide_eq_true c8
         clear c8
         obtain ⟨ji9,hji9⟩:∃ j_:Int,(wrap64 (x10_1 - 1)) = j_:=⟨_,rfl⟩
         replace H:(if 0≤(ji9) then (if (ji9) < (l0.length:Int) then ((impl_dueOrder.f k1 ((rd_T25 l0 (ji9)).f0) ((rd_T25 l0 (ji9)).f1) ((rd_T25 l0 (ji9)).f2) ((rd_T25 l0 (ji9)).f3) ((rd_T25 l0 x10_1).f0) ((rd_T25 l0 x10_1).f1) ((rd_T25 l0 x10_1).f2) ((rd_T25 l0 x10_1).f3)).bind fun t346=>(if t346 ≥ 0 then (some false) else (impl_QueueRight.l0 k1 l0 l0 (l0.length:Int) (wrap64 (x10_1 + 1))))) else (none)) else (none)) = some r:=by first|(rw [hji9] at H;exact H)|(simp only [hji9] at H ⊢;exact H)
         (try rw [hji9] at A6)
         have hji9w:(IntKind.i64.wrap (x10_1 - 1)) = ji9:=(i64_w _).trans hji9
         by_cases c10:0≤(ji9)
         ·rw [if_pos c10] at H
          have c10b0:decide (0≤(ji9)) = true:=decide_eq_true c10
          clear c10
          by_cases c11:(ji9) < (l0.length:Int)
          ·rw [if_pos c11] at H
           have c11b0:decide ((ji9) < (l0.length:Int)) = true:=decide_eq_true c11
           clear c11
           replace H:=Option.bind_eq_some_iff.mp H
           obtain ⟨t346,A120,H⟩:=H
           replace H:(if t346 ≥ 0 then (some false) else (impl_QueueRight.l0 k1 l0 l0 (l0.length:Int) (wrap64 (x10_1 + 1)))) = some r:=H
           have A12:=Aside0.mk A120
           clear A120
           by_cases c13:t346 ≥ 0
           ·rw [if_pos c13] at H
            have c13b0:decide (0≤t346) = true:=decide_eq_true c13
            clear c13
            obtain rfl:=Option.some.inj H
            have p342:0≤(x10_1:Int):=of_decide_eq_true (by first|(with_reducible assumption)|assumption)
            have q342:x10_1 < (l0.length:Int):=of_decide_eq_true (by first|(with_reducible assumption)|assumption)
            obtain ⟨ad342,e342,hx342_0,hx342_1,hx342_2,hx342_3⟩:=at_T25 HR0.out x10_1 p342 q342
            cases e342
            replace hx342_0:=(HB.out.cell (World.block_lt_of_cell? w _ hx342_0)).trans hx342_0
            replace hx342_1:=(HB.out.cell (World.block_lt_of_cell? w _ hx342_1)).trans hx342_1
            replace hx342_2:=(HB.out.cell (World.block_lt_of_cell? w _ hx342_2)).trans hx342_2
            replace hx342_3:=(HB.out.cell (World.block_lt_of_cell? w _ hx342_3)).trans hx342_3
            replace p342:=eq_true p342
            replace q342:=eq_true q342
            try go_wp2_with (first|((with_reducible refine gate_dst (N:=4) rfl ?_);refine box_event ?hg (N:=4) ?hd (cs:=#[.int .i64 0,.int .i64 0,.int .i64 0,.string (⟨#[]⟩:ByteArray)]) (t:=25) ?hr ?_;(case hd=>rfl);(case hg=>rfl);(case hr=>first|(go_simp;done)|(go_simp;rfl));intro gb343 hg w14 hbox hb;have n0_:=Aside0.mk (below_step (by repeat (first|(with_reducible first|exact HB.out|apply below_alloc|apply pw_below_drewN|apply below_drew1)|exact HB.out)) hb);have n1_:=Aside0.mk (hbox);have n2_:=Aside0.mk ((by rw [hg];exact (below_size (by repeat (first|(with_reducible first|exact HB.out|apply below_alloc|apply pw_below_drewN|apply below_drew1)|exact HB.out))):w.heap.size≤gb343));have n3_:=Aside0.mk ((by rw [hg];exact (below_size (by repeat (first|(with_reducible first|exact HB.out|apply below_alloc|apply pw_below_drewN|apply below_drew1)|exact HB.out))):w.heap.size≤gb343));clear HB;have HB:=n0_;have BK343:=n1_;have GW343:=n2_;have GE343:=n3_;clear n0_ n1_ n2_ n3_;clear hb hbox hg;have hcz15_0:w14.cell? ⟨gb343,0,none⟩ = some (.int .i64 0):=(blk_cell BK343.out 0).trans rfl;have hcz15_1:w14.cell? ⟨gb343,1,none⟩ = some (.int .i64 0):=(blk_cell BK343.out 1).trans rfl;have hcz15_2:w14.cell? ⟨gb343,2,none⟩ = some (.int .i64 0):=(blk_cell BK343.out 2).trans rfl;have hcz15_3:w14.cell? ⟨gb343,3,none⟩ = some (.string (⟨#[]⟩:ByteArray)):=(blk_cell BK343.out 3).trans rfl;have hfz15_0:=blk_frozen BK343.out 0;have hfz15_1:=blk_frozen BK343.out 1;have hfz15_2:=blk_frozen BK343.out 2;have hfz15_3:=blk_frozen BK343.out 3))
            have n0_:Aside0 (((((w14.setCell ⟨gb343,0,none⟩ (.int .i64 ((rd_T25 l0 x10_1).f0))).setCell ⟨gb343,1,none⟩ (.int .i64 ((rd_T25 l0 x10_1).f1))).setCell ⟨gb343,2,none⟩ (.int .i64 ((rd_T25 l0 x10_1).f2))).setCell ⟨gb343,3,none⟩ (.string ((rd_T25 l0 x10_1).f3))).heap[gb343]? = some (.cells #[.int .i64 ((rd_T25 l0 x10_1).f0),.int .i64 ((rd_T25 l0 x10_1).f1),.int .i64 ((rd_T25 l0 x10_1).f2),.string ((rd_T25 l0 x10_1).f3)] 25 (0,0))):=⟨by (with_reducible repeat (first|refine blk_drewN ?_ _|refine blk_drew ?_|refine blk_alloc ?_ _));refine blk_put (cs:=#[.int .i64 ((rd_T25 l0 x10_1).f0),.int .i64 ((rd_T25 l0 x10_1).f1),.int .i64 ((rd_T25 l0 x10_1).f2),.string (⟨#[]⟩:ByteArray)]) ?_ 3 _ (by first|rfl|(simp only [← hji9];rfl)|(simp [*];done));(with_reducible repeat (first|refine blk_drewN ?_ _|refine blk_drew ?_|refine blk_alloc ?_ _));refine blk_put (cs:=#[.int .i64 ((rd_T25 l0 x10_1).f0),.int .i64 ((rd_T25 l0 x10_1).f1),.int .i64 0,.string (⟨#[]⟩:ByteArray)]) ?_ 2 _ (by first|rfl|(simp only [← hji9];rfl)|(simp [*];done));(with_reducible repeat (first|refine blk_drewN ?_ _|refine blk_drew ?_|refine blk_alloc ?_ _));refine blk_put (cs:=#[.int .i64 ((rd_T25 l0 x10_1).f0),.int .i64 0,.int .i64 0,.string (⟨#[]⟩:ByteArray)]) ?_ 1 _ (by first|rfl|(simp only [← hji9];rfl)|(simp [*];done));(with_reducible repeat (first|refine blk_drewN ?_ _|refine blk_drew ?_|refine blk_alloc ?_ _));refine blk_put (cs:=#[.int .i64 0,.int .i64 0,.int .i64 0,.string (⟨#[]⟩:ByteArray)]) ?_ 0 _ (by first|rfl|(simp only [← hji9];rfl)|(simp [*];done));(with_reducible repeat (first|refine blk_drewN ?_ _|refine blk_drew ?_|refine blk_alloc ?_ _));exact BK343.out⟩
            have n1_:Aside0 (Below w.heap.size w ((((w14.setCell ⟨gb343,0,none⟩ (.int .i64 ((rd_T25 l0 x10_1).f0))).setCell ⟨gb343,1,none⟩ (.int .i64 ((rd_T25 l0 x10_1).f1))).setCell ⟨gb343,2,none⟩ (.int .i64 ((rd_T25 l0 x10_1).f2))).setCell ⟨gb343,3,none⟩ (.string ((rd_T25 l0 x10_1).f3)))):=⟨by repeat (first|(with_reducible first|exact HB.out|apply below_alloc|apply pw_below_drewN|apply below_drew1|refine below_set ?_ GE343.out)|exact HB.out)⟩
            (try clear BK343)
            (try clear HB)
            generalize ((((w14.setCell ⟨gb343,0,none⟩ (.int .i64 ((rd_T25 l0 x10_1).f0))).setCell ⟨gb343,1,none⟩ (.int .i64 ((rd_T25 l0 x10_1).f1))).setCell ⟨gb343,2,none⟩ (.int .i64 ((rd_T25 l0 x10_1).f2))).setCell ⟨gb343,3,none⟩ (.string ((rd_T25 l0 x10_1).f3))) = w16 at n0_ n1_ ⊢
            have BK343:=n0_
            have HB:=n1_
            clear n0_ n1_
            have n0_:=Aside0.mk (blk_drew BK343.out)
            have n1_:=Aside0.mk (below_drew1 HB.out)
            clear BK343
            clear HB
            have BK343:=n0_
            have HB:=n1_
            clear n0_ n1_
            have p345:0≤((ji9):Int):=of_decide_eq_true (by first|(with_reducible assumption)|assumption)
            have q345:(ji9) < (l0.length:Int):=of_decide_eq_true (by first|(with_reducible assumption)|assumption)
            obtain ⟨ad345,e345,hx345_0,hx345_1,hx345_2,hx345_3⟩:=at_T25 HR0.out (ji9) p345 q345
            have hw345_3:=hx345_3
            have hw345_2:=hx345_2
            have hw345_1:=hx345_1
            have hw345_0:=hx345_0
            obtain rfl:ad342 = ad345:=(by injection e345)
            replace hx345_0:=(HB.out.cell (World.block_lt_of_cell? w _ hx345_0)).trans hx345_0
            replace hx345_1:=(HB.out.cell (World.block_lt_of_cell? w _ hx345_1)).trans hx345_1
            replace hx345_2:=(HB.out.cell (World.block_lt_of_cell? w _ hx345_2)).trans hx345_2
            replace hx345_3:=(HB.out.cell (World.block_lt_of_cell? w _ hx345_3)).trans hx345_3
            replace p345:=eq_true p345
            replace q345:=eq_true q345
            refine start_ (n:=17) (S:=fun w'=>w'.cell? ⟨gb343,0,none⟩ = some (.int .i64 ((rd_T25 l0 x10_1).f0))∧w'.cell? ⟨gb343,1,none⟩ = some (.int .i64 ((rd_T25 l0 x10_1).f1))∧w'.cell? ⟨gb343,2,none⟩ = some (.int .i64 ((rd_T25 l0 x10_1).f2))∧w'.cell? ⟨gb343,3,none⟩ = some (.string ((rd_T25 l0 x10_1).f3))∧w'.cell? (ad342.add (((ji9)).toNat * 4)) = some (.int .i64 ((rd_T25 l0 (ji9)).f0))∧w'.cell? ⟨(ad342.add (((ji9)).toNat * 4)).block,(ad342.add (((ji9)).toNat * 4)).off + 1,none⟩ = some (.int .i64 ((rd_T25 l0 (ji9)).f1))∧w'.cell? ⟨(ad342.add (((ji9)).toNat * 4)).block,(ad342.add (((ji9)).toNat * 4)).off + 2,none⟩ = some (.int .i64 ((rd_T25 l0 (ji9)).f2))∧w'.cell? ⟨(ad342.add (((ji9)).toNat * 4)).block,(ad342.add (((ji9)).toNat * 4)).off + 3,none⟩ = some (.string ((rd_T25 l0 (ji9)).f3))) (ds:=[]) #[false,false,false,false,false,false,false,false,false,false,false,false,false,false,false,false,false] (by kernel_rfl) rfl rfl ⟨(blk_cell BK343.out 0).trans rfl,(blk_cell BK343.out 1).trans rfl,(blk_cell BK343.out 2).trans rfl,(blk_cell BK343.out 3).trans rfl,((HB.out.cell (World.block_lt_of_cell? w _ hw345_0)).trans hw345_0),((HB.out.cell (World.block_lt_of_cell? w _ hw345_1)).trans hw345_1),((HB.out.cell (World.block_lt_of_cell? w _ hw345_2)).trans hw345_2),((HB.out.cell (World.block_lt_of_cell? w _ hw345_3)).trans hw345_3)⟩ (fun hHeld=>?_);refine with_tabW impl_QueueRight.tab6 impl_QueueRight.bits6 (fun HT_ HW_=>?_)
            generalize w16.drew = w17 at BK343 HB hx345_0 hx345_1 hx345_2 hx345_3 hHeld ⊢
            refine take_ (i:=0) (N:=some 15) (v:=?_) (a':=?_) #[true,false,false,false,false,false,false,false,false,false,false,false,false,false,false,false,false] rfl rfl (take_ofW HT_.out HW_.out (by kernel_rfl)) (fun _ _ _ h=>h) (Or.inl ⟨by rfl,?_⟩) hHeld ?_ ?_
            rotate_left
            ·rintro w' ⟨s0,s1,s2,s3,s4,s5,s6,s7⟩
             go_simp
             with_reducible rfl
            rotate_left
            ·simp only [Act.put,List.setIfInBounds_toArray,List.set_cons_zero,List.set_cons_succ,i64_w,i32_w]
             rfl
            refine one_ (i:=1) (N:=some 16) #[true,true,false,false,false,false,false,false,false,false,false,false,false,false,false,false,false] rfl rfl (one_of HT_.out (by kernel_rfl)) (by decide) (fun K hK=>?_)
            refine goes_ Try.func67 (by kernel_rfl) rfl #[.agg #[.int .i64 ((rd_T25 l0 x10_1).f0),.int .i64 ((rd_T25 l0 x10_1).f1),.int .i64 ((rd_T25 l0 x10_1).f2),.string ((rd_T25 l0 x10_1).f3)]] (by rfl) rfl rfl (by (try simp only [List.map_toArray,List.map_cons,List.map_nil]);first|done|rfl|(simp only [List.length_drop,List.length_take];rfl)) ?_
            with_reducible refine (impl_isDue.calls ((rd_T25 l0 x10_1).f0) ((rd_T25 l0 x10_1).f1) ((rd_T25 l0 x10_1).f2) ((rd_T25 l0 x10_1).f3) true _ A6.out).mono ?_
            rintro e w18 ⟨rfl,hb⟩
            refine ⟨_,rfl,?_⟩
            have n0_:=Aside0.mk (blk_below (g:=gb343) (o:=.cells #[.int .i64 ((rd_T25 l0 x10_1).f0),.int .i64 ((rd_T25 l0 x10_1).f1),.int .i64 ((rd_T25 l0 x10_1).f2),.string ((rd_T25 l0 x10_1).f3)] 25 (0,0)) (by (with_reducible repeat (first|refine blk_drewN ?_ _|refine blk_drew ?_|refine blk_alloc ?_ _));exact BK343.out) hb)
            have n1_:=Aside0.mk (below_step (by repeat (first|(with_reducible first|exact HB.out|apply below_alloc|apply pw_below_drewN|apply below_drew1|refine below_set ?_ GE343.out)|exact HB.out)) hb)
            clear BK343
            clear HB
            have BK343:=n0_
            have HB:=n1_
            clear n0_ n1_
            (try clear hb)
            (try clear hb2)
            (try clear hk)
            (try clear hi)
            refine hK.out _ _ ⟨(blk_cell BK343.out 0).trans rfl,(blk_cell BK343.out 1).trans rfl,(blk_cell BK343.out 2).trans rfl,(blk_cell BK343.out 3).trans rfl,((HB.out.cell (World.block_lt_of_cell? w _ hw345_0)).trans hw345_0),((HB.out.cell (World.block_lt_of_cell? w _ hw345_1)).trans hw345_1),((HB.out.cell (World.block_lt_of_cell? w _ hw345_2)).trans hw345_2),((HB.out.cell (World.block_lt_of_cell? w _ hw345_3)).trans hw345_3)⟩ (fun hHeld=>?_)
            clear hK K
            refine norm_ (a':=?_) ?_ ?_
            rotate_left
            ·show Act.put _ (some 16) _ = _
             simp only [Act.put,List.setIfInBounds_toArray,List.set_cons_zero,List.set_cons_succ,i64_w,i32_w]
             rfl
            refine pure_ (i:=2) (N:=some 17) (v:=?_) (a':=?_) #[true,true,true,false,false,false,false,false,false,false,false,false,false,false,false,false,false] rfl rfl (any_of HT_.out (by kernel_rfl)) (fun _ _ _ h=>h) (Or.inl ⟨by rfl,?_⟩) ?_ ?_
            rotate_left
            ·intro w'
             go_simp
             with_reducible rfl
            rotate_left
            ·simp only [Act.put,List.setIfInBounds_toArray,List.set_cons_zero,List.set_cons_succ,i64_w,i32_w]
             rfl
            refine pure_ (i:=3) (N:=some 18) (v:=?_) (a':=?_) #[true,true,true,true,false,false,false,false,false,false,false,false,false,false,false,false,false] rfl rfl (any_of HT_.out (by kernel_rfl)) (fun _ _ _ h=>h) (Or.inl ⟨by rfl,?_⟩) ?_ ?_
            rotate_left
            ·intro w'
             go_simp
             with_reducible rfl
            rotate_left
            ·simp only [Act.put,List.setIfInBounds_toArray,List.set_cons_zero,List.set_cons_succ,i64_w,i32_w]
             rfl
            refine pure_ (i:=4) (N:=some 19) (v:=?_) (a':=?_) #[true,true,true,true,true,false,false,false,false,false,false,false,false,false,false,false,false] rfl rfl (any_of HT_.out (by kernel_rfl)) (fun _ _ _ h=>h) (Or.inl ⟨by rfl,?_⟩) ?_ ?_
            rotate_left
            ·intro w'
             go_simp
             with_reducible rfl
            rotate_left
            ·simp only [Act.put,List.setIfInBounds_toArray,List.set_cons_zero,List.set_cons_succ,i64_w,i32_w]
             rfl
            refine pure_ (i:=5) (N:=some 20) (v:=?_) (a':=?_) #[true,true,true,true,true,true,false,false,false,false,false,false,false,false,false,false,false] rfl rfl (any_of HT_.out (by kernel_rfl)) (fun _ _ _ h=>h) (Or.inl ⟨by rfl,?_⟩) ?_ ?_
            rotate_left
            ·intro w'
             go_simp
             with_reducible rfl
            rotate_left
            ·simp only [Act.put,List.setIfInBounds_toArray,List.set_cons_zero,List.set_cons_succ,i64_w,i32_w]
             rfl
            refine pure_ (i:=6) (N:=some 21) (v:=?_) (a':=?_) #[true,true,true,true,true,true,true,false,false,false,false,false,false,false,false,false,false] rfl rfl (any_of HT_.out (by kernel_rfl)) (fun _ _ _ h=>h) (Or.inl ⟨by rfl,?_⟩) ?_ ?_
            rotate_left
            ·intro w'
             go_simp
             with_reducible rfl
            rotate_left
            ·simp only [Act.put,List.setIfInBounds_toArray,List.set_cons_zero,List.set_cons_succ,i64_w,i32_w]
             rfl
            refine pure_ (i:=7) (N:=some 22) (v:=?_) (a':=?_) #[true,true,true,true,true,true,true,true,false,false,false,false,false,false,false,false,false] rfl rfl (any_of HT_.out (by kernel_rfl)) (fun _ _ _ h=>h) (Or.inl ⟨by rfl,?_⟩) ?_ ?_
            rotate_left
            ·intro w'
             go_simp
             with_reducible rfl
            rotate_left
            ·simp only [Act.put,List.setIfInBounds_toArray,List.set_cons_zero,List.set_cons_succ,i64_w,i32_w]
             rfl
            refine pure_ (i:=8) (N:=some 23) (v:=?_) (a':=?_) #[true,true,true,true,true,true,true,true,true,false,false,false,false,false,false,false,false] rfl rfl (any_of HT_.out (by kernel_rfl)) (fun _ _ _ h=>h) (Or.inl ⟨by rfl,?_⟩) ?_ ?_
            rotate_left
            ·intro w'
             go_simp
             with_reducible rfl
            rotate_left
            ·simp only [Act.put,List.setIfInBounds_toArray,List.set_cons_zero,List.set_cons_succ,i64_w,i32_w]
             rfl
            refine pure_ (i:=9) (N:=some 24) (v:=?_) (a':=?_) #[true,true,true,true,true,true,true,true,true,true,false,false,false,false,false,false,false] rfl rfl (any_of HT_.out (by kernel_rfl)) (fun _ _ _ h=>h) (Or.inl ⟨by rfl,?_⟩) ?_ ?_
            rotate_left
            ·intro w'
             go_simp
             with_reducible rfl
            rotate_left
            ·simp only [Act.put,List.setIfInBounds_toArray,List.set_cons_zero,List.set_cons_succ,i64_w,i32_w]
             rfl
            refine pure_ (i:=10) (N:=some 25) (v:=?_) (a':=?_) #[true,true,true,true,true,true,true,true,true,true,true,false,false,false,false,false,false] rfl rfl (any_of HT_.out (by kernel_rfl)) (fun _ _ _ h=>h) (Or.inl ⟨by rfl,?_⟩) ?_ ?_
            rotate_left
            ·intro w'
             go_simp
             with_reducible rfl
            rotate_left
            ·simp only [Act.put,List.setIfInBounds_toArray,List.set_cons_zero,List.set_cons_succ,i64_w,i32_w]
             rfl
            refine take_ (i:=11) (N:=some 26) (v:=?_) (a':=?_) #[true,true,true,true,true,true,true,true,true,true,true,true,false,false,false,false,false] rfl rfl (take_ofW HT_.out HW_.out (by kernel_rfl)) (fun _ _ _ h=>h) (Or.inl ⟨by rfl,?_⟩) hHeld ?_ ?_
            rotate_left
            ·rintro w' ⟨s0,s1,s2,s3,s4,s5,s6,s7⟩
             go_simp
             with_reducible rfl
            rotate_left
            ·simp only [Act.put,List.setIfInBounds_toArray,List.set_cons_zero,List.set_cons_succ,i64_w,i32_w]
             rfl
            refine take_ (i:=12) (N:=some 27) (v:=?_) (a':=?_) #[true,true,true,true,true,true,true,true,true,true,true,true,true,false,false,false,false] rfl rfl (take_ofW HT_.out HW_.out (by kernel_rfl)) (fun _ _ _ h=>h) (Or.inl ⟨by rfl,?_⟩) hHeld ?_ ?_
            rotate_left
            ·rintro w' ⟨s0,s1,s2,s3,s4,s5,s6,s7⟩
             go_simp
             with_reducible rfl
            rotate_left
            ·simp only [Act.put,List.setIfInBounds_toArray,List.set_cons_zero,List.set_cons_succ,i64_w,i32_w]
             rfl
            refine one_ (i:=13) (N:=some 28) #[true,true,true,true,true,true,true,true,true,true,true,true,true,true,false,false,false] rfl rfl (one_of HT_.out (by kernel_rfl)) (by decide) (fun K hK=>?_)
            refine goes_ Try.func66 (by kernel_rfl) rfl #[.agg #[.int .i64 ((rd_T25 l0 (ji9)).f0),.int .i64 ((rd_T25 l0 (ji9)).f1),.int .i64 ((rd_T25 l0 (ji9)).f2),.string ((rd_T25 l0 (ji9)).f3)],.agg #[.int .i64 ((rd_T25 l0 x10_1).f0),.int .i64 ((rd_T25 l0 x10_1).f1),.int .i64 ((rd_T25 l0 x10_1).f2),.string ((rd_T25 l0 x10_1).f3)]] (by rfl) rfl rfl (by (try simp only [List.map_toArray,List.map_cons,List.map_nil]);first|done|(simp only [hji9];rfl)|rfl|(simp only [List.length_drop,List.length_take];rfl)) ?_
            with_reducible refine (impl_dueOrder.calls k1 ((rd_T25 l0 (ji9)).f0) ((rd_T25 l0 (ji9)).f1) ((rd_T25 l0 (ji9)).f2) ((rd_T25 l0 (ji9)).f3) ((rd_T25 l0 x10_1).f0) ((rd_T25 l0 x10_1).f1) ((rd_T25 l0 x10_1).f2) ((rd_T25 l0 x10_1).f3) t346 _ A12.out).mono ?_
            rintro e w19 ⟨rfl,hb⟩
            refine ⟨_,rfl,?_⟩
            have n0_:=Aside0.mk (blk_below (g:=gb343) (o:=.cells #[.int .i64 ((rd_T25 l0 x10_1).f0),.int .i64 ((rd_T25 l0 x10_1).f1),.int .i64 ((rd_T25 l0 x10_1).f2),.string ((rd_T25 l0 x10_1).f3)] 25 (0,0)) (by (with_reducible repeat (first|refine blk_drewN ?_ _|refine blk_drew ?_|refine blk_alloc ?_ _));exact BK343.out) hb)
            have n1_:=Aside0.mk (below_step (by repeat (first|(with_reducible first|exact HB.out|apply below_alloc|apply pw_below_drewN|apply below_drew1|refine below_set ?_ GE343.out)|exact HB.out)) hb)
            clear BK343
            clear HB
            have BK343:=n0_
            have HB:=n1_
            clear n0_ n1_
            (try clear hb)
            (try clear hb2)
            (try clear hk)
            (try clear hi)
            refine hK.out _ _ ⟨(blk_cell BK343.out 0).trans rfl,(blk_cell BK343.out 1).trans rfl,(blk_cell BK343.out 2).trans rfl,(blk_cell BK343.out 3).trans rfl,((HB.out.cell (World.block_lt_of_cell? w _ hw345_0)).trans hw345_0),((HB.out.cell (World.block_lt_of_cell? w _ hw345_1)).trans hw345_1),((HB.out.cell (World.block_lt_of_cell? w _ hw345_2)).trans hw345_2),((HB.out.cell (World.block_lt_of_cell? w _ hw345_3)).trans hw345_3)⟩ (fun hHeld=>?_)
            clear hK K
            refine norm_ (a':=?_) ?_ ?_
            rotate_left
            ·show Act.put _ (some 28) _ = _
             simp only [Act.put,List.setIfInBounds_toArray,List.set_cons_zero,List.set_cons_succ,i64_w,i32_w]
             rfl
            refine pure_ (i:=14) (N:=some 29) (v:=?_) (a':=?_) #[true,true,true,true,true,true,true,true,true,true,true,true,true,true,true,false,false] rfl rfl (any_of HT_.out (by kernel_rfl)) (fun _ _ _ h=>h) (Or.inl ⟨by rfl,?_⟩) ?_ ?_
            rotate_left
            ·intro w'
             go_simp
             with_reducible rfl
            rotate_left
            ·simp only [Act.put,List.setIfInBounds_toArray,List.set_cons_zero,List.set_cons_succ,i64_w,i32_w]
             rfl
            refine pure_ (i:=15) (N:=some 30) (v:=?_) (a':=?_) #[true,true,true,true,true,true,true,true,true,true,true,true,true,true,true,true,false] rfl rfl (any_of HT_.out (by kernel_rfl)) (fun _ _ _ h=>h) (Or.inl ⟨by rfl,?_⟩) ?_ ?_
            rotate_left
            ·intro w'
             go_simp
             with_reducible rfl
            rotate_left
            ·simp only [Act.put,List.setIfInBounds_toArray,List.set_cons_zero,List.set_cons_succ,i64_w,i32_w]
             rfl
            refine pure_ (i:=16) (N:=some 31) (v:=?_) (a':=?_) #[true,true,true,true,true,true,true,true,true,true,true,true,true,true,true,true,true] rfl rfl (any_of HT_.out (by kernel_rfl)) (fun _ _ _ h=>h) (Or.inl ⟨by rfl,?_⟩) ?_ ?_
            rotate_left
            ·intro w'
             go_simp
             with_reducible rfl
            rotate_left
            ·simp only [Act.put,List.setIfInBounds_toArray,List.set_cons_zero,List.set_cons_succ,i64_w,i32_w]
             rfl
            refine done_ (done_of HT_.out (by kernel_rfl)) ?_
            try go_wp2
            go_ret
            exact ⟨by first|rfl|(simp [errW_none,errW_some] <;> rfl)|(simp only [← hji9];first|rfl|(simp [errW_none,errW_some] <;> rfl))|(simp [*,errW_none,errW_some] <;> rfl),by repeat (first|(with_reducible first|exact HB.out|apply below_alloc|apply pw_below_drewN|apply below_drew1|refine below_set ?_ GE343.out)|exact HB.out)⟩
           ·rw [if_neg c13] at H
            have c13b0:decide (0≤t346) = false:=decide_eq_false c13
            clear c13
            have H':=Aside0.mk H
            clear H
            have p342:0≤(x10_1:Int):=of_decide_eq_true (by first|(with_reducible assumption)|assumption)
            have q342:x10_1 < (l0.length:Int):=of_decide_eq_true (by first|(with_reducible assumption)|assumption)
            obtain ⟨ad342,e342,hx342_0,hx342_1,hx342_2,hx342_3⟩:=at_T25 HR0.out x10_1 p342 q342
            cases e342
            replace hx342_0:=(HB.out.cell (World.block_lt_of_cell? w _ hx342_0)).trans hx342_0
            replace hx342_1:=(HB.out.cell (World.block_lt_of_cell? w _ hx342_1)).trans hx342_1
            replace hx342_2:=(HB.out.cell (World.block_lt_of_cell? w _ hx342_2)).trans hx342_2
            replace hx342_3:=(HB.out.cell (World.block_lt_of_cell? w _ hx342_3)).trans hx342_3
            replace p342:=eq_true p342
            replace q342:=eq_true q342
            try go_wp2_with (first|((with_reducible refine gate_dst (N:=4) rfl ?_);refine box_event ?hg (N:=4) ?hd (cs:=#[.int .i64 0,.int .i64 0,.int .i64 0,.string (⟨#[]⟩:ByteArray)]) (t:=25) ?hr ?_;(case hd=>rfl);(case hg=>rfl);(case hr=>first|(go_simp;done)|(go_simp;rfl));intro gb343 hg w20 hbox hb;have n0_:=Aside0.mk (below_step (by repeat (first|(with_reducible first|exact HB.out|apply below_alloc|apply pw_below_drewN|apply below_drew1)|exact HB.out)) hb);have n1_:=Aside0.mk (hbox);have n2_:=Aside0.mk ((by rw [hg];exact (below_size (by repeat (first|(with_reducible first|exact HB.out|apply below_alloc|apply pw_below_drewN|apply below_drew1)|exact HB.out))):w.heap.size≤gb343));have n3_:=Aside0.mk ((by rw [hg];exact (below_size (by repeat (first|(with_reducible first|exact HB.out|apply below_alloc|apply pw_below_drewN|apply below_drew1)|exact HB.out))):w.heap.size≤gb343));clear HB;have HB:=n0_;have BK343:=n1_;have GW343:=n2_;have GE343:=n3_;clear n0_ n1_ n2_ n3_;clear hb hbox hg;have hcz21_0:w20.cell? ⟨gb343,0,none⟩ = some (.int .i64 0):=(blk_cell BK343.out 0).trans rfl;have hcz21_1:w20.cell? ⟨gb343,1,none⟩ = some (.int .i64 0):=(blk_cell BK343.out 1).trans rfl;have hcz21_2:w20.cell? ⟨gb343,2,none⟩ = some (.int .i64 0):=(blk_cell BK343.out 2).trans rfl;have hcz21_3:w20.cell? ⟨gb343,3,none⟩ = some (.string (⟨#[]⟩:ByteArray)):=(blk_cell BK343.out 3).trans rfl;have hfz21_0:=blk_frozen BK343.out 0;have hfz21_1:=blk_frozen BK343.out 1;have hfz21_2:=blk_frozen BK343.out 2;have hfz21_3:=blk_frozen BK343.out 3))
            have n0_:Aside0 (((((w20.setCell ⟨gb343,0,none⟩ (.int .i64 ((rd_T25 l0 x10_1).f0))).setCell ⟨gb343,1,none⟩ (.int .i64 ((rd_T25 l0 x10_1).f1))).setCell ⟨gb343,2,none⟩ (.int .i64 ((rd_T25 l0 x10_1).f2))).setCell ⟨gb343,3,none⟩ (.string ((rd_T25 l0 x10_1).f3))).heap[gb343]? = some (.cells #[.int .i64 ((rd_T25 l0 x10_1).f0),.int .i64 ((rd_T25 l0 x10_1).f1),.int .i64 ((rd_T25 l0 x10_1).f2),.string ((rd_T25 l0 x10_1).f3)] 25 (0,0))):=⟨by (with_reducible repeat (first|refine blk_drewN ?_ _|refine blk_drew ?_|refine blk_alloc ?_ _));refine blk_put (cs:=#[.int .i64 ((rd_T25 l0 x10_1).f0),.int .i64 ((rd_T25 l0 x10_1).f1),.int .i64 ((rd_T25 l0 x10_1).f2),.string (⟨#[]⟩:ByteArray)]) ?_ 3 _ (by first|rfl|(simp only [← hji9];rfl)|(simp [*];done));(with_reducible repeat (first|refine blk_drewN ?_ _|refine blk_drew ?_|refine blk_alloc ?_ _));refine blk_put (cs:=#[.int .i64 ((rd_T25 l0 x10_1).f0),.int .i64 ((rd_T25 l0 x10_1).f1),.int .i64 0,.string (⟨#[]⟩:ByteArray)]) ?_ 2 _ (by first|rfl|(simp only [← hji9];rfl)|(simp [*];done));(with_reducible repeat (first|refine blk_drewN ?_ _|refine blk_drew ?_|refine blk_alloc ?_ _));refine blk_put (cs:=#[.int .i64 ((rd_T25 l0 x10_1).f0),.int .i64 0,.int .i64 0,.string (⟨#[]⟩:ByteArray)]) ?_ 1 _ (by first|rfl|(simp only [← hji9];rfl)|(simp [*];done));(with_reducible repeat (first|refine blk_drewN ?_ _|refine blk_drew ?_|refine blk_alloc ?_ _));refine blk_put (cs:=#[.int .i64 0,.int .i64 0,.int .i64 0,.string (⟨#[]⟩:ByteArray)]) ?_ 0 _ (by first|rfl|(simp only [← hji9];rfl)|(simp [*];done));(with_reducible repeat (first|refine blk_drewN ?_ _|refine blk_drew ?_|refine blk_alloc ?_ _));exact BK343.out⟩
            have n1_:Aside0 (Below w.heap.size w ((((w20.setCell ⟨gb343,0,none⟩ (.int .i64 ((rd_T25 l0 x10_1).f0))).setCell ⟨gb343,1,none⟩ (.int .i64 ((rd_T25 l0 x10_1).f1))).setCell ⟨gb343,2,none⟩ (.int .i64 ((rd_T25 l0 x10_1).f2))).setCell ⟨gb343,3,none⟩ (.string ((rd_T25 l0 x10_1).f3)))):=⟨by repeat (first|(with_reducible first|exact HB.out|apply below_alloc|apply pw_below_drewN|apply below_drew1|refine below_set ?_ GE343.out)|exact HB.out)⟩
            (try clear BK343)
            (try clear HB)
            generalize ((((w20.setCell ⟨gb343,0,none⟩ (.int .i64 ((rd_T25 l0 x10_1).f0))).setCell ⟨gb343,1,none⟩ (.int .i64 ((rd_T25 l0 x10_1).f1))).setCell ⟨gb343,2,none⟩ (.int .i64 ((rd_T25 l0 x10_1).f2))).setCell ⟨gb343,3,none⟩ (.string ((rd_T25 l0 x10_1).f3))) = w22 at n0_ n1_ ⊢
            have BK343:=n0_
            have HB:=n1_
            clear n0_ n1_
            have n0_:=Aside0.mk (blk_drew BK343.out)
            have n1_:=Aside0.mk (below_drew1 HB.out)
            clear BK343
            clear HB
            have BK343:=n0_
            have HB:=n1_
            clear n0_ n1_
            have p345:0≤((ji9):Int):=of_decide_eq_true (by first|(with_reducible assumption)|assumption)
            have q345:(ji9) < (l0.length:Int):=of_decide_eq_true (by first|(with_reducible assumption)|assumption)
            obtain ⟨ad345,e345,hx345_0,hx345_1,hx345_2,hx345_3⟩:=at_T25 HR0.out (ji9) p345 q345
            have hw345_3:=hx345_3
            have hw345_2:=hx345_2
            have hw345_1:=hx345_1
            have hw345_0:=hx345_0
            obtain rfl:ad342 = ad345:=(by injection e345)
            replace hx345_0:=(HB.out.cell (World.block_lt_of_cell? w _ hx345_0)).trans hx345_0
            replace hx345_1:=(HB.out.cell (World.block_lt_of_cell? w _ hx345_1)).trans hx345_1
            replace hx345_2:=(HB.out.cell (World.block_lt_of_cell? w _ hx345_2)).trans hx345_2
            replace hx345_3:=(HB.out.cell (World.block_lt_of_cell? w _ hx345_3)).trans hx345_3
            replace p345:=eq_true p345
            replace q345:=eq_true q345
            refine start_ (n:=17) (S:=fun w'=>w'.cell? ⟨gb343,0,none⟩ = some (.int .i64 ((rd_T25 l0 x10_1).f0))∧w'.cell? ⟨gb343,1,none⟩ = some (.int .i64 ((rd_T25 l0 x10_1).f1))∧w'.cell? ⟨gb343,2,none⟩ = some (.int .i64 ((rd_T25 l0 x10_1).f2))∧w'.cell? ⟨gb343,3,none⟩ = some (.string ((rd_T25 l0 x10_1).f3))∧w'.cell? (ad342.add (((ji9)).toNat * 4)) = some (.int .i64 ((rd_T25 l0 (ji9)).f0))∧w'.cell? ⟨(ad342.add (((ji9)).toNat * 4)).block,(ad342.add (((ji9)).toNat * 4)).off + 1,none⟩ = some (.int .i64 ((rd_T25 l0 (ji9)).f1))∧w'.cell? ⟨(ad342.add (((ji9)).toNat * 4)).block,(ad342.add (((ji9)).toNat * 4)).off + 2,none⟩ = some (.int .i64 ((rd_T25 l0 (ji9)).f2))∧w'.cell? ⟨(ad342.add (((ji9)).toNat * 4)).block,(ad342.add (((ji9)).toNat * 4)).off + 3,none⟩ = some (.string ((rd_T25 l0 (ji9)).f3))) (ds:=[]) #[false,false,false,false,false,false,false,false,false,false,false,false,false,false,false,false,false] (by kernel_rfl) rfl rfl ⟨(blk_cell BK343.out 0).trans rfl,(blk_cell BK343.out 1).trans rfl,(blk_cell BK343.out 2).trans rfl,(blk_cell BK343.out 3).trans rfl,((HB.out.cell (World.block_lt_of_cell? w _ hw345_0)).trans hw345_0),((HB.out.cell (World.block_lt_of_cell? w _ hw345_1)).trans hw345_1),((HB.out.cell (World.block_lt_of_cell? w _ hw345_2)).trans hw345_2),((HB.out.cell (World.block_lt_of_cell? w _ hw345_3)).trans hw345_3)⟩ (fun hHeld=>?_);refine with_tabW impl_QueueRight.tab6 impl_QueueRight.bits6 (fun HT_ HW_=>?_)
            generalize w22.drew = w23 at BK343 HB hx345_0 hx345_1 hx345_2 hx345_3 hHeld ⊢
            refine take_ (i:=0) (N:=some 15) (v:=?_) (a':=?_) #[true,false,false,false,false,false,false,false,false,false,false,false,false,false,false,false,false] rfl rfl (take_ofW HT_.out HW_.out (by kernel_rfl)) (fun _ _ _ h=>h) (Or.inl ⟨by rfl,?_⟩) hHeld ?_ ?_
            rotate_left
            ·rintro w' ⟨s0,s1,s2,s3,s4,s5,s6,s7⟩
             go_simp
             with_reducible rfl
            rotate_left
            ·simp only [Act.put,List.setIfInBounds_toArray,List.set_cons_zero,List.set_cons_succ,i64_w,i32_w]
             rfl
            refine one_ (i:=1) (N:=some 16) #[true,true,false,false,false,false,false,false,false,false,false,false,false,false,false,false,false] rfl rfl (one_of HT_.out (by kernel_rfl)) (by decide) (fun K hK=>?_)
            refine goes_ Try.func67 (by kernel_rfl) rfl #[.agg #[.int .i64 ((rd_T25 l0 x10_1).f0),.int .i64 ((rd_T25 l0 x10_1).f1),.int .i64 ((rd_T25 l0 x10_1).f2),.string ((rd_T25 l0 x10_1).f3)]] (by rfl) rfl rfl (by (try simp only [List.map_toArray,List.map_cons,List.map_nil]);first|done|rfl|(simp only [List.length_drop,List.length_take];rfl)) ?_
            with_reducible refine (impl_isDue.calls ((rd_T25 l0 x10_1).f0) ((rd_T25 l0 x10_1).f1) ((rd_T25 l0 x10_1).f2) ((rd_T25 l0 x10_1).f3) true _ A6.out).mono ?_
            rintro e w24 ⟨rfl,hb⟩
            refine ⟨_,rfl,?_⟩
            have n0_:=Aside0.mk (blk_below (g:=gb343) (o:=.cells #[.int .i64 ((rd_T25 l0 x10_1).f0),.int .i64 ((rd_T25 l0 x10_1).f1),.int .i64 ((rd_T25 l0 x10_1).f2),.string ((rd_T25 l0 x10_1).f3)] 25 (0,0)) (by (with_reducible repeat (first|refine blk_drewN ?_ _|refine blk_drew ?_|refine blk_alloc ?_ _));exact BK343.out) hb)
            have n1_:=Aside0.mk (below_step (by repeat (first|(with_reducible first|exact HB.out|apply below_alloc|apply pw_below_drewN|apply below_drew1|refine below_set ?_ GE343.out)|exact HB.out)) hb)
            clear BK343
            clear HB
            have BK343:=n0_
            have HB:=n1_
            clear n0_ n1_
            (try clear hb)
            (try clear hb2)
            (try clear hk)
            (try clear hi)
            refine hK.out _ _ ⟨(blk_cell BK343.out 0).trans rfl,(blk_cell BK343.out 1).trans rfl,(blk_cell BK343.out 2).trans rfl,(blk_cell BK343.out 3).trans rfl,((HB.out.cell (World.block_lt_of_cell? w _ hw345_0)).trans hw345_0),((HB.out.cell (World.block_lt_of_cell? w _ hw345_1)).trans hw345_1),((HB.out.cell (World.block_lt_of_cell? w _ hw345_2)).trans hw345_2),((HB.out.cell (World.block_lt_of_cell? w _ hw345_3)).trans hw345_3)⟩ (fun hHeld=>?_)
            clear hK K
            refine norm_ (a':=?_) ?_ ?_
            rotate_left
            ·show Act.put _ (some 16) _ = _
             simp only [Act.put,List.setIfInBounds_toArray,List.set_cons_zero,List.set_cons_succ,i64_w,i32_w]
             rfl
            refine pure_ (i:=2) (N:=some 17) (v:=?_) (a':=?_) #[true,true,true,false,false,false,false,false,false,false,false,false,false,false,false,false,false] rfl rfl (any_of HT_.out (by kernel_rfl)) (fun _ _ _ h=>h) (Or.inl ⟨by rfl,?_⟩) ?_ ?_
            rotate_left
            ·intro w'
             go_simp
             with_reducible rfl
            rotate_left
            ·simp only [Act.put,List.setIfInBounds_toArray,List.set_cons_zero,List.set_cons_succ,i64_w,i32_w]
             rfl
            refine pure_ (i:=3) (N:=some 18) (v:=?_) (a':=?_) #[true,true,true,true,false,false,false,false,false,false,false,false,false,false,false,false,false] rfl rfl (any_of HT_.out (by kernel_rfl)) (fun _ _ _ h=>h) (Or.inl ⟨by rfl,?_⟩) ?_ ?_
            rotate_left
            ·intro w'
             go_simp
             with_reducible rfl
            rotate_left
            ·simp only [Act.put,List.setIfInBounds_toArray,List.set_cons_zero,List.set_cons_succ,i64_w,i32_w]
             rfl
            refine pure_ (i:=4) (N:=some 19) (v:=?_) (a':=?_) #[true,true,true,true,true,false,false,false,false,false,false,false,false,false,false,false,false] rfl rfl (any_of HT_.out (by kernel_rfl)) (fun _ _ _ h=>h) (Or.inl ⟨by rfl,?_⟩) ?_ ?_
            rotate_left
            ·intro w'
             go_simp
             with_reducible rfl
            rotate_left
            ·simp only [Act.put,List.setIfInBounds_toArray,List.set_cons_zero,List.set_cons_succ,i64_w,i32_w]
             rfl
            refine pure_ (i:=5) (N:=some 20) (v:=?_) (a':=?_) #[true,true,true,true,true,true,false,false,false,false,false,false,false,false,false,false,false] rfl rfl (any_of HT_.out (by kernel_rfl)) (fun _ _ _ h=>h) (Or.inl ⟨by rfl,?_⟩) ?_ ?_
            rotate_left
            ·intro w'
             go_simp
             with_reducible rfl
            rotate_left
            ·simp only [Act.put,List.setIfInBounds_toArray,List.set_cons_zero,List.set_cons_succ,i64_w,i32_w]
             rfl
            refine pure_ (i:=6) (N:=some 21) (v:=?_) (a':=?_) #[true,true,true,true,true,true,true,false,false,false,false,false,false,false,false,false,false] rfl rfl (any_of HT_.out (by kernel_rfl)) (fun _ _ _ h=>h) (Or.inl ⟨by rfl,?_⟩) ?_ ?_
            rotate_left
            ·intro w'
             go_simp
             with_reducible rfl
            rotate_left
            ·simp only [Act.put,List.setIfInBounds_toArray,List.set_cons_zero,List.set_cons_succ,i64_w,i32_w]
             rfl
            refine pure_ (i:=7) (N:=some 22) (v:=?_) (a':=?_) #[true,true,true,true,true,true,true,true,false,false,false,false,false,false,false,false,false] rfl rfl (any_of HT_.out (by kernel_rfl)) (fun _ _ _ h=>h) (Or.inl ⟨by rfl,?_⟩) ?_ ?_
            rotate_left
            ·intro w'
             go_simp
             with_reducible rfl
            rotate_left
            ·simp only [Act.put,List.setIfInBounds_toArray,List.set_cons_zero,List.set_cons_succ,i64_w,i32_w]
             rfl
            refine pure_ (i:=8) (N:=some 23) (v:=?_) (a':=?_) #[true,true,true,true,true,true,true,true,true,false,false,false,false,false,false,false,false] rfl rfl (any_of HT_.out (by kernel_rfl)) (fun _ _ _ h=>h) (Or.inl ⟨by rfl,?_⟩) ?_ ?_
            rotate_left
            ·intro w'
             go_simp
             with_reducible rfl
            rotate_left
            ·simp only [Act.put,List.setIfInBounds_toArray,List.set_cons_zero,List.set_cons_succ,i64_w,i32_w]
             rfl
            refine pure_ (i:=9) (N:=some 24) (v:=?_) (a':=?_) #[true,true,true,true,true,true,true,true,true,true,false,false,false,false,false,false,false] rfl rfl (any_of HT_.out (by kernel_rfl)) (fun _ _ _ h=>h) (Or.inl ⟨by rfl,?_⟩) ?_ ?_
            rotate_left
            ·intro w'
             go_simp
             with_reducible rfl
            rotate_left
            ·simp only [Act.put,List.setIfInBounds_toArray,List.set_cons_zero,List.set_cons_succ,i64_w,i32_w]
             rfl
            refine pure_ (i:=10) (N:=some 25) (v:=?_) (a':=?_) #[true,true,true,true,true,true,true,true,true,true,true,false,false,false,false,false,false] rfl rfl (any_of HT_.out (by kernel_rfl)) (fun _ _ _ h=>h) (Or.inl ⟨by rfl,?_⟩) ?_ ?_
            rotate_left
            ·intro w'
             go_simp
             with_reducible rfl
            rotate_left
            ·simp only [Act.put,List.setIfInBounds_toArray,List.set_cons_zero,List.set_cons_succ,i64_w,i32_w]
             rfl
            refine take_ (i:=11) (N:=some 26) (v:=?_) (a':=?_) #[true,true,true,true,true,true,true,true,true,true,true,true,false,false,false,false,false] rfl rfl (take_ofW HT_.out HW_.out (by kernel_rfl)) (fun _ _ _ h=>h) (Or.inl ⟨by rfl,?_⟩) hHeld ?_ ?_
            rotate_left
            ·rintro w' ⟨s0,s1,s2,s3,s4,s5,s6,s7⟩
             go_simp
             with_reducible rfl
            rotate_left
            ·simp only [Act.put,List.setIfInBounds_toArray,List.set_cons_zero,List.set_cons_succ,i64_w,i32_w]
             rfl
            refine take_ (i:=12) (N:=some 27) (v:=?_) (a':=?_) #[true,true,true,true,true,true,true,true,true,true,true,true,true,false,false,false,false] rfl rfl (take_ofW HT_.out HW_.out (by kernel_rfl)) (fun _ _ _ h=>h) (Or.inl ⟨by rfl,?_⟩) hHeld ?_ ?_
            rotate_left
            ·rintro w' ⟨s0,s1,s2,s3,s4,s5,s6,s7⟩
             go_simp
             with_reducible rfl
            rotate_left
            ·simp only [Act.put,List.setIfInBounds_toArray,List.set_cons_zero,List.set_cons_succ,i64_w,i32_w]
             rfl
            refine one_ (i:=13) (N:=some 28) #[true,true,true,true,true,true,true,true,true,true,true,true,true,true,false,false,false] rfl rfl (one_of HT_.out (by kernel_rfl)) (by decide) (fun K hK=>?_)
            refine goes_ Try.func66 (by kernel_rfl) rfl #[.agg #[.int .i64 ((rd_T25 l0 (ji9)).f0),.int .i64 ((rd_T25 l0 (ji9)).f1),.int .i64 ((rd_T25 l0 (ji9)).f2),.string ((rd_T25 l0 (ji9)).f3)],.agg #[.int .i64 ((rd_T25 l0 x10_1).f0),.int .i64 ((rd_T25 l0 x10_1).f1),.int .i64 ((rd_T25 l0 x10_1).f2),.string ((rd_T25 l0 x10_1).f3)]] (by rfl) rfl rfl (by (try simp only [List.map_toArray,List.map_cons,List.map_nil]);first|done|(simp only [hji9];rfl)|rfl|(simp only [List.length_drop,List.length_take];rfl)) ?_
            with_reducible refine (impl_dueOrder.calls k1 ((rd_T25 l0 (ji9)).f0) ((rd_T25 l0 (ji9)).f1) ((rd_T25 l0 (ji9)).f2) ((rd_T25 l0 (ji9)).f3) ((rd_T25 l0 x10_1).f0) ((rd_T25 l0 x10_1).f1) ((rd_T25 l0 x10_1).f2) ((rd_T25 l0 x10_1).f3) t346 _ A12.out).mono ?_
            rintro e w25 ⟨rfl,hb⟩
            refine ⟨_,rfl,?_⟩
            have n0_:=Aside0.mk (blk_below (g:=gb343) (o:=.cells #[.int .i64 ((rd_T25 l0 x10_1).f0),.int .i64 ((rd_T25 l0 x10_1).f1),.int .i64 ((rd_T25 l0 x10_1).f2),.string ((rd_T25 l0 x10_1).f3)] 25 (0,0)) (by (with_reducible repeat (first|refine blk_drewN ?_ _|refine blk_drew ?_|refine blk_alloc ?_ _));exact BK343.out) hb)
            have n1_:=Aside0.mk (below_step (by repeat (first|(with_reducible first|exact HB.out|apply below_alloc|apply pw_below_drewN|apply below_drew1|refine below_set ?_ GE343.out)|exact HB.out)) hb)
            clear BK343
            clear HB
            have BK343:=n0_
            have HB:=n1_
            clear n0_ n1_
            (try clear hb)
            (try clear hb2)
            (try clear hk)
            (try clear hi)
            refine hK.out _ _ ⟨(blk_cell BK343.out 0).trans rfl,(blk_cell BK343.out 1).trans rfl,(blk_cell BK343.out 2).trans rfl,(blk_cell BK343.out 3).trans rfl,((HB.out.cell (World.block_lt_of_cell? w _ hw345_0)).trans hw345_0),((HB.out.cell (World.block_lt_of_cell? w _ hw345_1)).trans hw345_1),((HB.out.cell (World.block_lt_of_cell? w _ hw345_2)).trans hw345_2),((HB.out.cell (World.block_lt_of_cell? w _ hw345_3)).trans hw345_3)⟩ (fun hHeld=>?_)
            clear hK K
            refine norm_ (a':=?_) ?_ ?_
            rotate_left
            ·show Act.put _ (some 28) _ = _
             simp only [Act.put,List.setIfInBounds_toArray,List.set_cons_zero,List.set_cons_succ,i64_w,i32_w]
             rfl
            refine pure_ (i:=14) (N:=some 29) (v:=?_) (a':=?_) #[true,true,true,true,true,true,true,true,true,true,true,true,true,true,true,false,false] rfl rfl (any_of HT_.out (by kernel_rfl)) (fun _ _ _ h=>h) (Or.inl ⟨by rfl,?_⟩) ?_ ?_
            rotate_left
            ·intro w'
             go_simp
             with_reducible rfl
            rotate_left
            ·simp only [Act.put,List.setIfInBounds_toArray,List.set_cons_zero,List.set_cons_succ,i64_w,i32_w]
             rfl
            refine pure_ (i:=15) (N:=some 30) (v:=?_) (a':=?_) #[true,true,true,true,true,true,true,true,true,true,true,true,true,true,true,true,false] rfl rfl (any_of HT_.out (by kernel_rfl)) (fun _ _ _ h=>h) (Or.inl ⟨by rfl,?_⟩) ?_ ?_
            rotate_left
            ·intro w'
             go_simp
             with_reducible rfl
            rotate_left
            ·simp only [Act.put,List.setIfInBounds_toArray,List.set_cons_zero,List.set_cons_succ,i64_w,i32_w]
             rfl
            refine pure_ (i:=16) (N:=some 31) (v:=?_) (a':=?_) #[true,true,true,true,true,true,true,true,true,true,true,true,true,true,true,true,true] rfl rfl (any_of HT_.out (by kernel_rfl)) (fun _ _ _ h=>h) (Or.inl ⟨by rfl,?_⟩) ?_ ?_
            rotate_left
            ·intro w'
             go_simp
             with_reducible rfl
            rotate_left
            ·simp only [Act.put,List.setIfInBounds_toArray,List.set_cons_zero,List.set_cons_succ,i64_w,i32_w]
             rfl
            refine done_ (done_of HT_.out (by kernel_rfl)) ?_
            try go_wp2
            go_roundg k1
            case measure=>have:=HK1.out;omega
            case rel=>exact ⟨(wrap64 (x10_1 + 1)),(by first|rfl|(simp;done)|(simp [*];done)),H',⟨by have:=HK1.out;omega⟩,⟨by repeat (first|(with_reducible first|exact HB.out|apply below_alloc|apply pw_below_drewN|apply below_drew1|refine below_set ?_ GE343.out)|exact HB.out)⟩⟩
          ·rw [if_neg c11] at H
           exact absurd H (by simp)
         ·rw [if_neg c10] at H
          exact absurd H (by simp)
        ·rw [if_neg c8] at H
         have c8b0:decide (0 < x10_1) = false:=decide_eq_false c8
         clear c8
         have H':=Aside0.mk H
         clear H
         have p342:0≤(x10_1:Int):=of_decide_eq_true (by first|(with_reducible assumption)|assumption)
         have q342:x10_1 < (l0.length:Int):=of_decide_eq_true (by first|(with_reducible assumption)|assumption)
         obtain ⟨ad342,e342,hx342_0,hx342_1,hx342_2,hx342_3⟩:=at_T25 HR0.out x10_1 p342 q342
         cases e342
         replace hx342_0:=(HB.out.cell (World.block_lt_of_cell? w _ hx342_0)).trans hx342_0
         replace hx342_1:=(HB.out.cell (World.block_lt_of_cell? w _ hx342_1)).trans hx342_1
         replace hx342_2:=(HB.out.cell (World.block_lt_of_cell? w _ hx342_2)).trans hx342_2
         replace hx342_3:=(HB.out.cell (World.block_lt_of_cell? w _ hx342_3)).trans hx342_3
         replace p342:=eq_true p342
         replace q342:=eq_true q342
         try go_wp2_with (first|((with_reducible refine gate_dst (N:=4) rfl ?_);refine box_event ?hg (N:=4) ?hd (cs:=#[.int .i64 0,.int .i64 0,.int .i64 0,.string (⟨#[]⟩:ByteArray)]) (t:=25) ?hr ?_;(case hd=>rfl);(case hg=>rfl);(case hr=>first|(go_simp;done)|(go_simp;rfl));intro gb343 hg w26 hbox hb;have n0_:=Aside0.mk (below_step (by repeat (first|(with_reducible first|exact HB.out|apply below_alloc|apply pw_below_drewN|apply below_drew1)|exact HB.out)) hb);have n1_:=Aside0.mk (hbox);have n2_:=Aside0.mk ((by rw [hg];exact (below_size (by repeat (first|(with_reducible first|exact HB.out|apply below_alloc|apply pw_below_drewN|apply below_drew1)|exact HB.out))):w.heap.size≤gb343));have n3_:=Aside0.mk ((by rw [hg];exact (below_size (by repeat (first|(with_reducible first|exact HB.out|apply below_alloc|apply pw_below_drewN|apply below_drew1)|exact HB.out))):w.heap.size≤gb343));clear HB;have HB:=n0_;have BK343:=n1_;have GW343:=n2_;have GE343:=n3_;clear n0_ n1_ n2_ n3_;clear hb hbox hg;have hcz27_0:w26.cell? ⟨gb343,0,none⟩ = some (.int .i64 0):=(blk_cell BK343.out 0).trans rfl;have hcz27_1:w26.cell? ⟨gb343,1,none⟩ = some (.int .i64 0):=(blk_cell BK343.out 1).trans rfl;have hcz27_2:w26.cell? ⟨gb343,2,none⟩ = some (.int .i64 0):=(blk_cell BK343.out 2).trans rfl;have hcz27_3:w26.cell? ⟨gb343,3,none⟩ = some (.string (⟨#[]⟩:ByteArray)):=(blk_cell BK343.out 3).trans rfl;have hfz27_0:=blk_frozen BK343.out 0;have hfz27_1:=blk_frozen BK343.out 1;have hfz27_2:=blk_frozen BK343.out 2;have hfz27_3:=blk_frozen BK343.out 3))
         have n0_:Aside0 (((((w26.setCell ⟨gb343,0,none⟩ (.int .i64 ((rd_T25 l0 x10_1).f0))).setCell ⟨gb343,1,none⟩ (.int .i64 ((rd_T25 l0 x10_1).f1))).setCell ⟨gb343,2,none⟩ (.int .i64 ((rd_T25 l0 x10_1).f2))).setCell ⟨gb343,3,none⟩ (.string ((rd_T25 l0 x10_1).f3))).heap[gb343]? = some (.cells #[.int .i64 ((rd_T25 l0 x10_1).f0),.int .i64 ((rd_T25 l0 x10_1).f1),.int .i64 ((rd_T25 l0 x10_1).f2),.string ((rd_T25 l0 x10_1).f3)] 25 (0,0))):=⟨by (with_reducible repeat (first|refine blk_drewN ?_ _|refine blk_drew ?_|refine blk_alloc ?_ _));refine blk_put (cs:=#[.int .i64 ((rd_T25 l0 x10_1).f0),.int .i64 ((rd_T25 l0 x10_1).f1),.int .i64 ((rd_T25 l0 x10_1).f2),.string (⟨#[]⟩:ByteArray)]) ?_ 3 _ rfl;(with_reducible repeat (first|refine blk_drewN ?_ _|refine blk_drew ?_|refine blk_alloc ?_ _));refine blk_put (cs:=#[.int .i64 ((rd_T25 l0 x10_1).f0),.int .i64 ((rd_T25 l0 x10_1).f1),.int .i64 0,.string (⟨#[]⟩:ByteArray)]) ?_ 2 _ rfl;(with_reducible repeat (first|refine blk_drewN ?_ _|refine blk_drew ?_|refine blk_alloc ?_ _));refine blk_put (cs:=#[.int .i64 ((rd_T25 l0 x10_1).f0),.int .i64 0,.int .i64 0,.string (⟨#[]⟩:ByteArray)]) ?_ 1 _ rfl;(with_reducible repeat (first|refine blk_drewN ?_ _|refine blk_drew ?_|refine blk_alloc ?_ _));refine blk_put (cs:=#[.int .i64 0,.int .i64 0,.int .i64 0,.string (⟨#[]⟩:ByteArray)]) ?_ 0 _ rfl;(with_reducible repeat (first|refine blk_drewN ?_ _|refine blk_drew ?_|refine blk_alloc ?_ _));exact BK343.out⟩
         have n1_:Aside0 (Below w.heap.size w ((((w26.setCell ⟨gb343,0,none⟩ (.int .i64 ((rd_T25 l0 x10_1).f0))).setCell ⟨gb343,1,none⟩ (.int .i64 ((rd_T25 l0 x10_1).f1))).setCell ⟨gb343,2,none⟩ (.int .i64 ((rd_T25 l0 x10_1).f2))).setCell ⟨gb343,3,none⟩ (.string ((rd_T25 l0 x10_1).f3)))):=⟨by repeat (first|(with_reducible first|exact HB.out|apply below_alloc|apply pw_below_drewN|apply below_drew1|refine below_set ?_ GE343.out)|exact HB.out)⟩
         (try clear BK343)
         (try clear HB)
         generalize ((((w26.setCell ⟨gb343,0,none⟩ (.int .i64 ((rd_T25 l0 x10_1).f0))).setCell ⟨gb343,1,none⟩ (.int .i64 ((rd_T25 l0 x10_1).f1))).setCell ⟨gb343,2,none⟩ (.int .i64 ((rd_T25 l0 x10_1).f2))).setCell ⟨gb343,3,none⟩ (.string ((rd_T25 l0 x10_1).f3))) = w28 at n0_ n1_ ⊢
         have BK343:=n0_
         have HB:=n1_
         clear n0_ n1_
         have n0_:=Aside0.mk (blk_drew BK343.out)
         have n1_:=Aside0.mk (below_drew1 HB.out)
         clear BK343
         clear HB
         have BK343:=n0_
         have HB:=n1_
         clear n0_ n1_
         refine start_ (n:=17) (S:=fun w'=>w'.cell? ⟨gb343,0,none⟩ = some (.int .i64 ((rd_T25 l0 x10_1).f0))∧w'.cell? ⟨gb343,1,none⟩ = some (.int .i64 ((rd_T25 l0 x10_1).f1))∧w'.cell? ⟨gb343,2,none⟩ = some (.int .i64 ((rd_T25 l0 x10_1).f2))∧w'.cell? ⟨gb343,3,none⟩ = some (.string ((rd_T25 l0 x10_1).f3))) (ds:=[]) #[false,false,false,false,false,false,false,false,false,false,false,false,false,false,false,false,false] (by kernel_rfl) rfl rfl ⟨(blk_cell BK343.out 0).trans rfl,(blk_cell BK343.out 1).trans rfl,(blk_cell BK343.out 2).trans rfl,(blk_cell BK343.out 3).trans rfl⟩ (fun hHeld=>?_);refine with_tabW impl_QueueRight.tab6 impl_QueueRight.bits6 (fun HT_ HW_=>?_)
         generalize w28.drew = w29 at BK343 HB hHeld ⊢
         refine take_ (i:=0) (N:=some 15) (v:=?_) (a':=?_) #[true,false,false,false,false,false,false,false,false,false,false,false,false,false,false,false,false] rfl rfl (take_ofW HT_.out HW_.out (by kernel_rfl)) (fun _ _ _ h=>h) (Or.inl ⟨by rfl,?_⟩) hHeld ?_ ?_
         rotate_left
         ·rintro w' ⟨s0,s1,s2,s3⟩
          go_simp
          with_reducible rfl
         rotate_left
         ·simp only [Act.put,List.setIfInBounds_toArray,List.set_cons_zero,List.set_cons_succ,i64_w,i32_w]
          rfl
         refine one_ (i:=1) (N:=some 16) #[true,true,false,false,false,false,false,false,false,false,false,false,false,false,false,false,false] rfl rfl (one_of HT_.out (by kernel_rfl)) (by decide) (fun K hK=>?_)
         refine goes_ Try.func67 (by kernel_rfl) rfl #[.agg #[.int .i64 ((rd_T25 l0 x10_1).f0),.int .i64 ((rd_T25 l0 x10_1).f1),.int .i64 ((rd_T25 l0 x10_1).f2),.string ((rd_T25 l0 x10_1).f3)]] (by rfl) rfl rfl (by (try simp only [List.map_toArray,List.map_cons,List.map_nil]);first|done|rfl|(simp only [List.length_drop,List.length_take];rfl)) ?_
         with_reducible refine (impl_isDue.calls ((rd_T25 l0 x10_1).f0) ((rd_T25 l0 x10_1).f1) ((rd_T25 l0 x10_1).f2) ((rd_T25 l0 x10_1).f3) true _ A6.out).mono ?_
         rintro e w30 ⟨rfl,hb⟩
         refine ⟨_,rfl,?_⟩
         have n0_:=Aside0.mk (blk_below (g:=gb343) (o:=.cells #[.int .i64 ((rd_T25 l0 x10_1).f0),.int .i64 ((rd_T25 l0 x10_1).f1),.int .i64 ((rd_T25 l0 x10_1).f2),.string ((rd_T25 l0 x10_1).f3)] 25 (0,0)) (by (with_reducible repeat (first|refine blk_drewN ?_ _|refine blk_drew ?_|refine blk_alloc ?_ _));exact BK343.out) hb)
         have n1_:=Aside0.mk (below_step (by repeat (first|(with_reducible first|exact HB.out|apply below_alloc|apply pw_below_drewN|apply below_drew1|refine below_set ?_ GE343.out)|exact HB.out)) hb)
         clear BK343
         clear HB
         have BK343:=n0_
         have HB:=n1_
         clear n0_ n1_
         (try clear hb)
         (try clear hb2)
         (try clear hk)
         (try clear hi)
         refine hK.out _ _ ⟨(blk_cell BK343.out 0).trans rfl,(blk_cell BK343.out 1).trans rfl,(blk_cell BK343.out 2).trans rfl,(blk_cell BK343.out 3).trans rfl⟩ (fun hHeld=>?_)
         clear hK K
         refine norm_ (a':=?_) ?_ ?_
         rotate_left
         ·show Act.put _ (some 16) _ = _
          simp only [Act.put,List.setIfInBounds_toArray,List.set_cons_zero,List.set_cons_succ,i64_w,i32_w]
          rfl
         refine pure_ (i:=2) (N:=some 17) (v:=?_) (a':=?_) #[true,true,true,false,false,false,false,false,false,false,false,false,false,false,false,false,false] rfl rfl (any_of HT_.out (by kernel_rfl)) (fun _ _ _ h=>h) (Or.inl ⟨by rfl,?_⟩) ?_ ?_
         rotate_left
         ·intro w'
          go_simp
          with_reducible rfl
         rotate_left
         ·simp only [Act.put,List.setIfInBounds_toArray,List.set_cons_zero,List.set_cons_succ,i64_w,i32_w]
          rfl
         refine pure_ (i:=3) (N:=some 18) (v:=?_) (a':=?_) #[true,true,true,true,false,false,false,false,false,false,false,false,false,false,false,false,false] rfl rfl (any_of HT_.out (by kernel_rfl)) (fun _ _ _ h=>h) (Or.inl ⟨by rfl,?_⟩) ?_ ?_
         rotate_left
         ·intro w'
          go_simp
          with_reducible rfl
         rotate_left
         ·simp only [Act.put,List.setIfInBounds_toArray,List.set_cons_zero,List.set_cons_succ,i64_w,i32_w]
          rfl
         refine pure_ (i:=4) (N:=some 19) (v:=?_) (a':=?_) #[true,true,true,true,true,false,false,false,false,false,false,false,false,false,false,false,false] rfl rfl (any_of HT_.out (by kernel_rfl)) (fun _ _ _ h=>h) (Or.inl ⟨by rfl,?_⟩) ?_ ?_
         rotate_left
         ·intro w'
          go_simp
          with_reducible rfl
         rotate_left
         ·simp only [Act.put,List.setIfInBounds_toArray,List.set_cons_zero,List.set_cons_succ,i64_w,i32_w]
          rfl
         refine pure_ (i:=5) (N:=some 20) (v:=?_) (a':=?_) #[true,true,true,true,true,true,false,false,false,false,false,false,false,false,false,false,false] rfl rfl (any_of HT_.out (by kernel_rfl)) (fun _ _ _ h=>h) (Or.inl ⟨by rfl,?_⟩) ?_ ?_
         rotate_left
         ·intro w'
          go_simp
          with_reducible rfl
         rotate_left
         ·simp only [Act.put,List.setIfInBounds_toArray,List.set_cons_zero,List.set_cons_succ,i64_w,i32_w]
          rfl
         refine pure_ (i:=6) (N:=some 21) (v:=?_) (a':=?_) #[true,true,true,true,true,true,true,false,false,false,false,false,false,false,false,false,false] rfl rfl (any_of HT_.out (by kernel_rfl)) (fun _ _ _ h=>h) (Or.inl ⟨by rfl,?_⟩) ?_ ?_
         rotate_left
         ·intro w'
          go_simp
          with_reducible rfl
         rotate_left
         ·simp only [Act.put,List.setIfInBounds_toArray,List.set_cons_zero,List.set_cons_succ,i64_w,i32_w]
          rfl
         refine pure_ (i:=7) (N:=some 22) (v:=undef) (a':=?_) #[true,true,true,true,true,true,true,true,false,false,false,false,false,false,false,false,false] rfl rfl (any_of HT_.out (by kernel_rfl)) (fun _ _ _ h=>h) (Or.inr ⟨by rfl,rfl⟩) ?_ ?_
         rotate_left
         ·simp only [Act.put,List.setIfInBounds_toArray,List.set_cons_zero,List.set_cons_succ,i64_w,i32_w]
          rfl
         refine pure_ (i:=8) (N:=some 23) (v:=undef) (a':=?_) #[true,true,true,true,true,true,true,true,true,false,false,false,false,false,false,false,false] rfl rfl (any_of HT_.out (by kernel_rfl)) (fun _ _ _ h=>h) (Or.inr ⟨by rfl,rfl⟩) ?_ ?_
         rotate_left
         ·simp only [Act.put,List.setIfInBounds_toArray,List.set_cons_zero,List.set_cons_succ,i64_w,i32_w]
          rfl
         refine pure_ (i:=9) (N:=some 24) (v:=undef) (a':=?_) #[true,true,true,true,true,true,true,true,true,true,false,false,false,false,false,false,false] rfl rfl (any_of HT_.out (by kernel_rfl)) (fun _ _ _ h=>h) (Or.inr ⟨by rfl,rfl⟩) ?_ ?_
         rotate_left
         ·simp only [Act.put,List.setIfInBounds_toArray,List.set_cons_zero,List.set_cons_succ,i64_w,i32_w]
          rfl
         refine pure_ (i:=10) (N:=some 25) (v:=undef) (a':=?_) #[true,true,true,true,true,true,true,true,true,true,true,false,false,false,false,false,false] rfl rfl (any_of HT_.out (by kernel_rfl)) (fun _ _ _ h=>h) (Or.inr ⟨by rfl,rfl⟩) ?_ ?_
         rotate_left
         ·simp only [Act.put,List.setIfInBounds_toArray,List.set_cons_zero,List.set_cons_succ,i64_w,i32_w]
          rfl
         refine pure_ (i:=11) (N:=some 26) (v:=undef) (a':=?_) #[true,true,true,true,true,true,true,true,true,true,true,true,false,false,false,false,false] rfl rfl (any_of HT_.out (by kernel_rfl)) (fun _ _ _ h=>h) (Or.inr ⟨by rfl,rfl⟩) ?_ ?_
         rotate_left
         ·simp only [Act.put,List.setIfInBounds_toArray,List.set_cons_zero,List.set_cons_succ,i64_w,i32_w]
          rfl
         refine pure_ (i:=12) (N:=some 27) (v:=undef) (a':=?_) #[true,true,true,true,true,true,true,true,true,true,true,true,true,false,false,false,false] rfl rfl (any_of HT_.out (by kernel_rfl)) (fun _ _ _ h=>h) (Or.inr ⟨by rfl,rfl⟩) ?_ ?_
         rotate_left
         ·simp only [Act.put,List.setIfInBounds_toArray,List.set_cons_zero,List.set_cons_succ,i64_w,i32_w]
          rfl
         refine pure_ (i:=13) (N:=some 28) (v:=undef) (a':=?_) #[true,true,true,true,true,true,true,true,true,true,true,true,true,true,false,false,false] rfl rfl (any_of HT_.out (by kernel_rfl)) (fun _ _ _ h=>h) (Or.inr ⟨by rfl,rfl⟩) ?_ ?_
         rotate_left
         ·simp only [Act.put,List.setIfInBounds_toArray,List.set_cons_zero,List.set_cons_succ,i64_w,i32_w]
          rfl
         refine pure_ (i:=14) (N:=some 29) (v:=undef) (a':=?_) #[true,true,true,true,true,true,true,true,true,true,true,true,true,true,true,false,false] rfl rfl (any_of HT_.out (by kernel_rfl)) (fun _ _ _ h=>h) (Or.inr ⟨by rfl,rfl⟩) ?_ ?_
         rotate_left
         ·simp only [Act.put,List.setIfInBounds_toArray,List.set_cons_zero,List.set_cons_succ,i64_w,i32_w]
          rfl
         refine pure_ (i:=15) (N:=some 30) (v:=?_) (a':=?_) #[true,true,true,true,true,true,true,true,true,true,true,true,true,true,true,true,false] rfl rfl (any_of HT_.out (by kernel_rfl)) (fun _ _ _ h=>h) (Or.inl ⟨by rfl,?_⟩) ?_ ?_
         rotate_left
         ·intro w'
          go_simp
          with_reducible rfl
         rotate_left
         ·simp only [Act.put,List.setIfInBounds_toArray,List.set_cons_zero,List.set_cons_succ,i64_w,i32_w]
          rfl
         refine pure_ (i:=16) (N:=some 31) (v:=?_) (a':=?_) #[true,true,true,true,true,true,true,true,true,true,true,true,true,true,true,true,true] rfl rfl (any_of HT_.out (by kernel_rfl)) (fun _ _ _ h=>h) (Or.inl ⟨by rfl,?_⟩) ?_ ?_
         rotate_left
         ·intro w'
          go_simp
          with_reducible rfl
         rotate_left
         ·simp only [Act.put,List.setIfInBounds_toArray,List.set_cons_zero,List.set_cons_succ,i64_w,i32_w]
          rfl
         refine done_ (done_of HT_.out (by kernel_rfl)) ?_
         try go_wp2
         go_roundg k1
         case measure=>have:=HK1.out;omega
         case rel=>exact ⟨(wrap64 (x10_1 + 1)),(by first|rfl|(simp;done)|(simp [*];done)),H',⟨by have:=HK1.out;omega⟩,⟨by repeat (first|(with_reducible first|exact HB.out|apply below_alloc|apply pw_below_drewN|apply below_drew1|refine below_set ?_ GE343.out)|exact HB.out)⟩⟩
       ·replace c7:=Bool.eq_false_iff.mpr c7
        subst c7
        have H1:(some false) = some r:=by rw [if_neg (show ¬ (false = true) by decide)] at H;exact H
        clear H
        have H:=H1
        clear H1
        obtain rfl:=Option.some.inj H
        have p342:0≤(x10_1:Int):=of_decide_eq_true (by first|(with_reducible assumption)|assumption)
        have q342:x10_1 < (l0.length:Int):=of_decide_eq_true (by first|(with_reducible assumption)|assumption)
        obtain ⟨ad342,e342,hx342_0,hx342_1,hx342_2,hx342_3⟩:=at_T25 HR0.out x10_1 p342 q342
        cases e342
        replace hx342_0:=(HB.out.cell (World.block_lt_of_cell? w _ hx342_0)).trans hx342_0
        replace hx342_1:=(HB.out.cell (World.block_lt_of_cell? w _ hx342_1)).trans hx342_1
        replace hx342_2:=(HB.out.cell (World.block_lt_of_cell? w _ hx342_2)).trans hx342_2
        replace hx342_3:=(HB.out.cell (World.block_lt_of_cell? w _ hx342_3)).trans hx342_3
        replace p342:=eq_true p342
        replace q342:=eq_true q342
        try go_wp2_with (first|((with_reducible refine gate_dst (N:=4) rfl ?_);refine box_event ?hg (N:=4) ?hd (cs:=#[.int .i64 0,.int .i64 0,.int .i64 0,.string (⟨#[]⟩:ByteArray)]) (t:=25) ?hr ?_;(case hd=>rfl);(case hg=>rfl);(case hr=>first|(go_simp;done)|(go_simp;rfl));intro gb343 hg w31 hbox hb;have n0_:=Aside0.mk (below_step (by repeat (first|(with_reducible first|exact HB.out|apply below_alloc|apply pw_below_drewN|apply below_drew1)|exact HB.out)) hb);have n1_:=Aside0.mk (hbox);have n2_:=Aside0.mk ((by rw [hg];exact (below_size (by repeat (first|(with_reducible first|exact HB.out|apply below_alloc|apply pw_below_drewN|apply below_drew1)|exact HB.out))):w.heap.size≤gb343));have n3_:=Aside0.mk ((by rw [hg];exact (below_size (by repeat (first|(with_reducible first|exact HB.out|apply below_alloc|apply pw_below_drewN|apply below_drew1)|exact HB.out))):w.heap.size≤gb343));clear HB;have HB:=n0_;have BK343:=n1_;have GW343:=n2_;have GE343:=n3_;clear n0_ n1_ n2_ n3_;clear hb hbox hg;have hcz32_0:w31.cell? ⟨gb343,0,none⟩ = some (.int .i64 0):=(blk_cell BK343.out 0).trans rfl;have hcz32_1:w31.cell? ⟨gb343,1,none⟩ = some (.int .i64 0):=(blk_cell BK343.out 1).trans rfl;have hcz32_2:w31.cell? ⟨gb343,2,none⟩ = some (.int .i64 0):=(blk_cell BK343.out 2).trans rfl;have hcz32_3:w31.cell? ⟨gb343,3,none⟩ = some (.string (⟨#[]⟩:ByteArray)):=(blk_cell BK343.out 3).trans rfl;have hfz32_0:=blk_frozen BK343.out 0;have hfz32_1:=blk_frozen BK343.out 1;have hfz32_2:=blk_frozen BK343.out 2;have hfz32_3:=blk_frozen BK343.out 3))
        have n0_:Aside0 (((((w31.setCell ⟨gb343,0,none⟩ (.int .i64 ((rd_T25 l0 x10_1).f0))).setCell ⟨gb343,1,none⟩ (.int .i64 ((rd_T25 l0 x10_1).f1))).setCell ⟨gb343,2,none⟩ (.int .i64 ((rd_T25 l0 x10_1).f2))).setCell ⟨gb343,3,none⟩ (.string ((rd_T25 l0 x10_1).f3))).heap[gb343]? = some (.cells #[.int .i64 ((rd_T25 l0 x10_1).f0),.int .i64 ((rd_T25 l0 x10_1).f1),.int .i64 ((rd_T25 l0 x10_1).f2),.string ((rd_T25 l0 x10_1).f3)] 25 (0,0))):=⟨by (with_reducible repeat (first|refine blk_drewN ?_ _|refine blk_drew ?_|refine blk_alloc ?_ _));refine blk_put (cs:=#[.int .i64 ((rd_T25 l0 x10_1).f0),.int .i64 ((rd_T25 l0 x10_1).f1),.int .i64 ((rd_T25 l0 x10_1).f2),.string (⟨#[]⟩:ByteArray)]) ?_ 3 _ rfl;(with_reducible repeat (first|refine blk_drewN ?_ _|refine blk_drew ?_|refine blk_alloc ?_ _));refine blk_put (cs:=#[.int .i64 ((rd_T25 l0 x10_1).f0),.int .i64 ((rd_T25 l0 x10_1).f1),.int .i64 0,.string (⟨#[]⟩:ByteArray)]) ?_ 2 _ rfl;(with_reducible repeat (first|refine blk_drewN ?_ _|refine blk_drew ?_|refine blk_alloc ?_ _));refine blk_put (cs:=#[.int .i64 ((rd_T25 l0 x10_1).f0),.int .i64 0,.int .i64 0,.string (⟨#[]⟩:ByteArray)]) ?_ 1 _ rfl;(with_reducible repeat (first|refine blk_drewN ?_ _|refine blk_drew ?_|refine blk_alloc ?_ _));refine blk_put (cs:=#[.int .i64 0,.int .i64 0,.int .i64 0,.string (⟨#[]⟩:ByteArray)]) ?_ 0 _ rfl;(with_reducible repeat (first|refine blk_drewN ?_ _|refine blk_drew ?_|refine blk_alloc ?_ _));exact BK343.out⟩
        have n1_:Aside0 (Below w.heap.size w ((((w31.setCell ⟨gb343,0,none⟩ (.int .i64 ((rd_T25 l0 x10_1).f0))).setCell ⟨gb343,1,none⟩ (.int .i64 ((rd_T25 l0 x10_1).f1))).setCell ⟨gb343,2,none⟩ (.int .i64 ((rd_T25 l0 x10_1).f2))).setCell ⟨gb343,3,none⟩ (.string ((rd_T25 l0 x10_1).f3)))):=⟨by repeat (first|(with_reducible first|exact HB.out|apply below_alloc|apply pw_below_drewN|apply below_drew1|refine below_set ?_ GE343.out)|exact HB.out)⟩
        (try clear BK343)
        (try clear HB)
        generalize ((((w31.setCell ⟨gb343,0,none⟩ (.int .i64 ((rd_T25 l0 x10_1).f0))).setCell ⟨gb343,1,none⟩ (.int .i64 ((rd_T25 l0 x10_1).f1))).setCell ⟨gb343,2,none⟩ (.int .i64 ((rd_T25 l0 x10_1).f2))).setCell ⟨gb343,3,none⟩ (.string ((rd_T25 l0 x10_1).f3))) = w33 at n0_ n1_ ⊢
        have BK343:=n0_
        have HB:=n1_
        clear n0_ n1_
        have n0_:=Aside0.mk (blk_drew BK343.out)
        have n1_:=Aside0.mk (below_drew1 HB.out)
        clear BK343
        clear HB
        have BK343:=n0_
        have HB:=n1_
        clear n0_ n1_
        refine start_ (n:=17) (S:=fun w'=>w'.cell? ⟨gb343,0,none⟩ = some (.int .i64 ((rd_T25 l0 x10_1).f0))∧w'.cell? ⟨gb343,1,none⟩ = some (.int .i64 ((rd_T25 l0 x10_1).f1))∧w'.cell? ⟨gb343,2,none⟩ = some (.int .i64 ((rd_T25 l0 x10_1).f2))∧w'.cell? ⟨gb343,3,none⟩ = some (.string ((rd_T25 l0 x10_1).f3))) (ds:=[]) #[false,false,false,false,false,false,false,false,false,false,false,false,false,false,false,false,false] (by kernel_rfl) rfl rfl ⟨(blk_cell BK343.out 0).trans rfl,(blk_cell BK343.out 1).trans rfl,(blk_cell BK343.out 2).trans rfl,(blk_cell BK343.out 3).trans rfl⟩ (fun hHeld=>?_);refine with_tabW impl_QueueRight.tab6 impl_QueueRight.bits6 (fun HT_ HW_=>?_)
        generalize w33.drew = w34 at BK343 HB hHeld ⊢
        refine take_ (i:=0) (N:=some 15) (v:=?_) (a':=?_) #[true,false,false,false,false,false,false,false,false,false,false,false,false,false,false,false,false] rfl rfl (take_ofW HT_.out HW_.out (by kernel_rfl)) (fun _ _ _ h=>h) (Or.inl ⟨by rfl,?_⟩) hHeld ?_ ?_
        rotate_left
        ·rintro w' ⟨s0,s1,s2,s3⟩
         go_simp
         with_reducible rfl
        rotate_left
        ·simp only [Act.put,List.setIfInBounds_toArray,List.set_cons_zero,List.set_cons_succ,i64_w,i32_w]
         rfl
        refine one_ (i:=1) (N:=some 16) #[true,true,false,false,false,false,false,false,false,false,false,false,false,false,false,false,false] rfl rfl (one_of HT_.out (by kernel_rfl)) (by decide) (fun K hK=>?_)
        refine goes_ Try.func67 (by kernel_rfl) rfl #[.agg #[.int .i64 ((rd_T25 l0 x10_1).f0),.int .i64 ((rd_T25 l0 x10_1).f1),.int .i64 ((rd_T25 l0 x10_1).f2),.string ((rd_T25 l0 x10_1).f3)]] (by rfl) rfl rfl (by (try simp only [List.map_toArray,List.map_cons,List.map_nil]);first|done|rfl|(simp only [List.length_drop,List.length_take];rfl)) ?_
        with_reducible refine (impl_isDue.calls ((rd_T25 l0 x10_1).f0) ((rd_T25 l0 x10_1).f1) ((rd_T25 l0 x10_1).f2) ((rd_T25 l0 x10_1).f3) false _ A6.out).mono ?_
        rintro e w35 ⟨rfl,hb⟩
        refine ⟨_,rfl,?_⟩
        have n0_:=Aside0.mk (blk_below (g:=gb343) (o:=.cells #[.int .i64 ((rd_T25 l0 x10_1).f0),.int .i64 ((rd_T25 l0 x10_1).f1),.int .i64 ((rd_T25 l0 x10_1).f2),.string ((rd_T25 l0 x10_1).f3)] 25 (0,0)) (by (with_reducible repeat (first|refine blk_drewN ?_ _|refine blk_drew ?_|refine blk_alloc ?_ _));exact BK343.out) hb)
        have n1_:=Aside0.mk (below_step (by repeat (first|(with_reducible first|exact HB.out|apply below_alloc|apply pw_below_drewN|apply below_drew1|refine below_set ?_ GE343.out)|exact HB.out)) hb)
        clear BK343
        clear HB
        have BK343:=n0_
        have HB:=n1_
        clear n0_ n1_
        (try clear hb)
        (try clear hb2)
        (try clear hk)
        (try clear hi)
        refine hK.out _ _ ⟨(blk_cell BK343.out 0).trans rfl,(blk_cell BK343.out 1).trans rfl,(blk_cell BK343.out 2).trans rfl,(blk_cell BK343.out 3).trans rfl⟩ (fun hHeld=>?_)
        clear hK K
        refine norm_ (a':=?_) ?_ ?_
        rotate_left
        ·show Act.put _ (some 16) _ = _
         simp only [Act.put,List.setIfInBounds_toArray,List.set_cons_zero,List.set_cons_succ,i64_w,i32_w]
         rfl
        refine pure_ (i:=2) (N:=some 17) (v:=?_) (a':=?_) #[true,true,true,false,false,false,false,false,false,false,false,false,false,false,false,false,false] rfl rfl (any_of HT_.out (by kernel_rfl)) (fun _ _ _ h=>h) (Or.inl ⟨by rfl,?_⟩) ?_ ?_
        rotate_left
        ·intro w'
         go_simp
         with_reducible rfl
        rotate_left
        ·simp only [Act.put,List.setIfInBounds_toArray,List.set_cons_zero,List.set_cons_succ,i64_w,i32_w]
         rfl
        refine pure_ (i:=3) (N:=some 18) (v:=?_) (a':=?_) #[true,true,true,true,false,false,false,false,false,false,false,false,false,false,false,false,false] rfl rfl (any_of HT_.out (by kernel_rfl)) (fun _ _ _ h=>h) (Or.inl ⟨by rfl,?_⟩) ?_ ?_
        rotate_left
        ·intro w'
         go_simp
         with_reducible rfl
        rotate_left
        ·simp only [Act.put,List.setIfInBounds_toArray,List.set_cons_zero,List.set_cons_succ,i64_w,i32_w]
         rfl
        refine pure_ (i:=4) (N:=some 19) (v:=undef) (a':=?_) #[true,true,true,true,true,false,false,false,false,false,false,false,false,false,false,false,false] rfl rfl (any_of HT_.out (by kernel_rfl)) (fun _ _ _ h=>h) (Or.inr ⟨by rfl,rfl⟩) ?_ ?_
        rotate_left
        ·simp only [Act.put,List.setIfInBounds_toArray,List.set_cons_zero,List.set_cons_succ,i64_w,i32_w]
         rfl
        refine pure_ (i:=5) (N:=some 20) (v:=undef) (a':=?_) #[true,true,true,true,true,true,false,false,false,false,false,false,false,false,false,false,false] rfl rfl (any_of HT_.out (by kernel_rfl)) (fun _ _ _ h=>h) (Or.inr ⟨by rfl,rfl⟩) ?_ ?_
        rotate_left
        ·simp only [Act.put,List.setIfInBounds_toArray,List.set_cons_zero,List.set_cons_succ,i64_w,i32_w]
         rfl
        refine pure_ (i:=6) (N:=some 21) (v:=undef) (a':=?_) #[true,true,true,true,true,true,true,false,false,false,false,false,false,false,false,false,false] rfl rfl (any_of HT_.out (by kernel_rfl)) (fun _ _ _ h=>h) (Or.inr ⟨by rfl,rfl⟩) ?_ ?_
        rotate_left
        ·simp only [Act.put,List.setIfInBounds_toArray,List.set_cons_zero,List.set_cons_succ,i64_w,i32_w]
         rfl
        refine pure_ (i:=7) (N:=some 22) (v:=undef) (a':=?_) #[true,true,true,true,true,true,true,true,false,false,false,false,false,false,false,false,false] rfl rfl (any_of HT_.out (by kernel_rfl)) (fun _ _ _ h=>h) (Or.inr ⟨by rfl,rfl⟩) ?_ ?_
        rotate_left
        ·simp only [Act.put,List.setIfInBounds_toArray,List.set_cons_zero,List.set_cons_succ,i64_w,i32_w]
         rfl
        refine pure_ (i:=8) (N:=some 23) (v:=undef) (a':=?_) #[true,true,true,true,true,true,true,true,true,false,false,false,false,false,false,false,false] rfl rfl (any_of HT_.out (by kernel_rfl)) (fun _ _ _ h=>h) (Or.inr ⟨by rfl,rfl⟩) ?_ ?_
        rotate_left
        ·simp only [Act.put,List.setIfInBounds_toArray,List.set_cons_zero,List.set_cons_succ,i64_w,i32_w]
         rfl
        refine pure_ (i:=9) (N:=some 24) (v:=undef) (a':=?_) #[true,true,true,true,true,true,true,true,true,true,false,false,false,false,false,false,false] rfl rfl (any_of HT_.out (by kernel_rfl)) (fun _ _ _ h=>h) (Or.inr ⟨by rfl,rfl⟩) ?_ ?_
        rotate_left
        ·simp only [Act.put,List.setIfInBounds_toArray,List.set_cons_zero,List.set_cons_succ,i64_w,i32_w]
         rfl
        refine pure_ (i:=10) (N:=some 25) (v:=undef) (a':=?_) #[true,true,true,true,true,true,true,true,true,true,true,false,false,false,false,false,false] rfl rfl (any_of HT_.out (by kernel_rfl)) (fun _ _ _ h=>h) (Or.inr ⟨by rfl,rfl⟩) ?_ ?_
        rotate_left
        ·simp only [Act.put,List.setIfInBounds_toArray,List.set_cons_zero,List.set_cons_succ,i64_w,i32_w]
         rfl
        refine pure_ (i:=11) (N:=some 26) (v:=undef) (a':=?_) #[true,true,true,true,true,true,true,true,true,true,true,true,false,false,false,false,false] rfl rfl (any_of HT_.out (by kernel_rfl)) (fun _ _ _ h=>h) (Or.inr ⟨by rfl,rfl⟩) ?_ ?_
        rotate_left
        ·simp only [Act.put,List.setIfInBounds_toArray,List.set_cons_zero,List.set_cons_succ,i64_w,i32_w]
         rfl
        refine pure_ (i:=12) (N:=some 27) (v:=undef) (a':=?_) #[true,true,true,true,true,true,true,true,true,true,true,true,true,false,false,false,false] rfl rfl (any_of HT_.out (by kernel_rfl)) (fun _ _ _ h=>h) (Or.inr ⟨by rfl,rfl⟩) ?_ ?_
        rotate_left
        ·simp only [Act.put,List.setIfInBounds_toArray,List.set_cons_zero,List.set_cons_succ,i64_w,i32_w]
         rfl
        refine pure_ (i:=13) (N:=some 28) (v:=undef) (a':=?_) #[true,true,true,true,true,true,true,true,true,true,true,true,true,true,false,false,false] rfl rfl (any_of HT_.out (by kernel_rfl)) (fun _ _ _ h=>h) (Or.inr ⟨by rfl,rfl⟩) ?_ ?_
        rotate_left
        ·simp only [Act.put,List.setIfInBounds_toArray,List.set_cons_zero,List.set_cons_succ,i64_w,i32_w]
         rfl
        refine pure_ (i:=14) (N:=some 29) (v:=undef) (a':=?_) #[true,true,true,true,true,true,true,true,true,true,true,true,true,true,true,false,false] rfl rfl (any_of HT_.out (by kernel_rfl)) (fun _ _ _ h=>h) (Or.inr ⟨by rfl,rfl⟩) ?_ ?_
        rotate_left
        ·simp only [Act.put,List.setIfInBounds_toArray,List.set_cons_zero,List.set_cons_succ,i64_w,i32_w]
         rfl
        refine pure_ (i:=15) (N:=some 30) (v:=undef) (a':=?_) #[true,true,true,true,true,true,true,true,true,true,true,true,true,true,true,true,false] rfl rfl (any_of HT_.out (by kernel_rfl)) (fun _ _ _ h=>h) (Or.inr ⟨by rfl,rfl⟩) ?_ ?_
        rotate_left
        ·simp only [Act.put,List.setIfInBounds_toArray,List.set_cons_zero,List.set_cons_succ,i64_w,i32_w]
         rfl
        refine pure_ (i:=16) (N:=some 31) (v:=?_) (a':=?_) #[true,true,true,true,true,true,true,true,true,true,true,true,true,true,true,true,true] rfl rfl (any_of HT_.out (by kernel_rfl)) (fun _ _ _ h=>h) (Or.inl ⟨by rfl,?_⟩) ?_ ?_
        rotate_left
        ·intro w'
         go_simp
         with_reducible rfl
        rotate_left
        ·simp only [Act.put,List.setIfInBounds_toArray,List.set_cons_zero,List.set_cons_succ,i64_w,i32_w]
         rfl
        refine done_ (done_of HT_.out (by kernel_rfl)) ?_
        try go_wp2
        go_ret
        exact ⟨by first|rfl|(simp [errW_none,errW_some] <;> rfl)|(simp [*,errW_none,errW_some] <;> rfl),by repeat (first|(with_reducible first|exact HB.out|apply below_alloc|apply pw_below_drewN|apply below_drew1|refine below_set ?_ GE343.out)|exact HB.out)⟩
      ·rw [if_neg c5] at H
       exact absurd H (by simp)
     ·rw [if_neg c4] at H
      exact absurd H (by simp)
    ·rw [if_neg c3] at H
     have c3b0:decide (x10_1 < (l0.length:Int)) = false:=decide_eq_false c3
     clear c3
     obtain rfl:=Option.some.inj H
     go_wp2
     go_ret
     exact ⟨by first|rfl|(simp [errW_none,errW_some] <;> rfl)|(simp [*,errW_none,errW_some] <;> rfl),by repeat (first|(with_reducible first|exact HB.out|apply below_alloc|apply pw_below_drewN|apply below_drew1)|exact HB.out)⟩
def impl_Due_121.f (l0:List (S25)):Option (Bool):=some (decide ((l0.length:Int) > 400))
set_option maxHeartbeats 8000000 in
set_option maxRecDepth 100000 in
theorem impl_Due_121.calls (A0:Option Addr) (c0:Nat) (l0:List (S25)) (r:Bool) (w:World) (hr0:Kd.C k25 w A0 l0.length l0) (hc0:l0.length≤c0) (h:impl_Due_121.f l0 = some r) :
  Calls Try.prog 121 #[.slice A0 l0.length c0] w fun e w'=>e = .returned (.bool r)∧Drawn0 w w':=by
 have HR0:=Aside0.mk hr0
 have HC0:=Aside0.mk hc0
 clear hr0 hc0
 have H:(some (decide ((l0.length:Int) > 400))) = some r:=h
 clear h
 obtain rfl:=Option.some.inj H
 go_enter Try.func121,Try.ntmps121
 go_wp2
 go_ret
 exact ⟨by first|rfl|(simp;done)|(simp [*];done),by repeat (first|exact Drawn0.refl _|apply Drawn0.step)⟩
end Go.Proofs.Ytaiiikfeaokmhaa.PFnQueue
