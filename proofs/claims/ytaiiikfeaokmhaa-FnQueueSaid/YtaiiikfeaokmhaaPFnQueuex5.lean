import Derived.Test.YtaiiikfeaokmhaaPFnQueuex0
import Derived.Test.YtaiiikfeaokmhaaPFnQueuex2
import Derived.Test.YtaiiikfeaokmhaaPFnQueuex4
namespace Go.Proofs.Ytaiiikfeaokmhaa.PFnQueue
open Go.RowKit Go.Proofs.YtaiiikfeaokmhaaW.PrintWords Go.Proofs.YtaiiikfeaokmhaaW.PrintLast Go.Proofs.YtaiiikfeaokmhaaW.PrintMore
attribute [local go_sem] max2_int min2_int max_two min_two max_three min_three max_four min_four   -- for this text's walks alone
set_option linter.unusedVariables false
set_option linter.unusedSimpArgs false
mutual
def spec_l03Put.j1:Nat→List (S25)→Int→Int→Int→Int→ByteArray→Option ((List (S25))×Int×Int×Int×ByteArray×Int)
 | 0,_,_,_,_,_,_=>none
 | k + 1,x0,x5,x117000,x117001,x117002,x117003=>if x5 < (x0.length:Int) then (if 0≤x5 then ((spec_l03Less.f x117000 x117001 x117002 x117003 ((rd_T25 x0 x5).f0) ((rd_T25 x0 x5).f1) ((rd_T25 x0 x5).f2) ((rd_T25 x0 x5).f3)).bind fun t121=>(spec_l03Put.j2 k x0 x5 (!t121) x117000 x117001 x117002 x117003)) else (none)) else (spec_l03Put.j2 k x0 x5 false x117000 x117001 x117002 x117003)
def spec_l03Put.j2:Nat→List (S25)→Int→Bool→Int→Int→Int→ByteArray→Option ((List (S25))×Int×Int×Int×ByteArray×Int)
 | 0,_,_,_,_,_,_,_=>none
 | k + 1,x0,x5,x33,x117000,x117001,x117002,x117003=>if x33 = true then ((spec_l03Ill.f 7).bind fun bt122=>(some (bt122.1,bt122.2.1,bt122.2.2.1,bt122.2.2.2.1,bt122.2.2.2.2.1,bt122.2.2.2.2.2))) else (if (x0.length:Int) ≥ 200 then ((spec_l03Ill.f 9).bind fun bt130=>(some (bt130.1,bt130.2.1,bt130.2.2.1,bt130.2.2.2.1,bt130.2.2.2.2.1,bt130.2.2.2.2.2))) else ((some (([]:List (S25)):List (S25))).bind fun y138=>(if 0≤x5 then (if x5≤(x0.length:Int) then ((some (x0.take (x5:Int).toNat:List (S25))).bind fun y141=>(if y138.length + y141.length < 3518437208883 then ((some (y138 ++ y141:List (S25))).bind fun y145=>(if y145.length < 3518437208883 then ((some (y145 ++ [(⟨x117000,x117001,x117002,x117003⟩:S25)]:List (S25))).bind fun y148=>((some (x0.drop (x5:Int).toNat:List (S25))).bind fun y151=>(if y148.length + y151.length < 3518437208883 then (some ((y148 ++ y151),0,0,0,(⟨#[]⟩:ByteArray),0)) else (none)))) else (none))) else (none))) else (none)) else (none))))
def spec_l03Put.l0:Nat→List (S25)→Int→Int→Int→Int→ByteArray→Option ((List (S25))×Int×Int×Int×ByteArray×Int)
 | 0,_,_,_,_,_,_=>none
 | k + 1,x0,x5,x117000,x117001,x117002,x117003=>if x5 < (x0.length:Int) then (if 0≤x5 then ((spec_l03Less.f ((rd_T25 x0 x5).f0) ((rd_T25 x0 x5).f1) ((rd_T25 x0 x5).f2) ((rd_T25 x0 x5).f3) x117000 x117001 x117002 x117003).bind fun t119=>(if t119 = true then (spec_l03Put.l0 k x0 (wrap64 (x5 + 1)) x117000 x117001 x117002 x117003) else (spec_l03Put.j1 k x0 x5 x117000 x117001 x117002 x117003))) else (none)) else (spec_l03Put.j1 k x0 x5 x117000 x117001 x117002 x117003)
end
def spec_l03Put.f (k:Nat) (l0:List (S25)) (a1_0:Int) (a1_1:Int) (a1_2:Int) (a1_3:ByteArray):Option ((List (S25))×Int×Int×Int×ByteArray×Int):=spec_l03Put.l0 k l0 0 a1_0 a1_1 a1_2 a1_3
def spec_l03Put.T2:Bool×List (List Nat×List Nat):=(true,[([],[]),([],[]),([1],[1]),([0,2],[0,2]),([3],[3]),([4],[4]),([4],[4]),([5,6,4],[4,5,6]),([7,4],[4,7]),([4],[4]),([8,9,4,4],[4,8,9]),([4,10],[4,10])])
def spec_l03Put.B2:List Nat:=[0,0,2,7,15,31,31,127,255,31,1023,2047]
theorem spec_l03Put.tab2:rtab .any (opsOf Try.f75 2) = spec_l03Put.T2:=by kernel_rfl
theorem spec_l03Put.bits2:waitsOk spec_l03Put.T2.2 spec_l03Put.B2 = true:=by kernel_rfl
def spec_l03Put.T4:Bool×List (List Nat×List Nat):=(true,[([],[]),([],[]),([1],[1]),([0,2],[0,2]),([3],[3]),([4],[4]),([4],[4]),([4],[4]),([6,7,4],[4,6,7]),([8,4],[4,8]),([5,9,4,4],[4,5,9]),([10,4],[4,10]),([4,11],[4,11])])
def spec_l03Put.B4:List Nat:=[0,0,2,7,15,31,31,31,223,479,1023,2047,4095]
theorem spec_l03Put.tab4:rtab .any (opsOf Try.f75 4) = spec_l03Put.T4:=by kernel_rfl
theorem spec_l03Put.bits4:waitsOk spec_l03Put.T4.2 spec_l03Put.B4 = true:=by kernel_rfl
set_option maxHeartbeats 8000000 in
set_option maxRecDepth 100000 in
theorem spec_l03Put.calls (k:Nat) (A0:Option Addr) (c0:Nat) (l0:List (S25)) (a1_0:Int) (a1_1:Int) (a1_2:Int) (a1_3:ByteArray) (r1:List (S25)) (r2:Int) (r3:Int) (r4:Int) (r5:ByteArray) (r6:Int) (w:World) (hr0:Kd.C k25 w A0 l0.length l0) (hc0:l0.length≤c0) (h:spec_l03Put.f k l0 a1_0 a1_1 a1_2 a1_3 = some (r1,r2,r3,r4,r5,r6)) :
  Calls Try.prog 75 #[.slice A0 l0.length c0,.agg #[.int .i64 a1_0,.int .i64 a1_1,.int .i64 a1_2,.string a1_3]] w fun e w'=>∃ v0_:Value,e = .returned (.agg #[v0_,.int .i64 r2,.int .i64 r3,.int .i64 r4,.string r5,.int .i64 r6])∧Kd.R k25 25 w' w.heap.size (fun _=>True) v0_ r1∧Below w.heap.size w w':=by
 have hu25:=Try.underlying25
 have hu29:=Try.underlying29
 have HR0:=Aside0.mk hr0
 have HC0:=Aside0.mk hc0
 clear hr0 hc0
 have HB:=Aside0.mk (Below.refl w.heap.size w)
 have H:(spec_l03Put.l0 k l0 0 a1_0 a1_1 a1_2 a1_3) = some (r1,r2,r3,r4,r5,r6):=h
 clear h
 have HC3:=Aside0.mk H
 clear H
 go_enter Try.func75,Try.ntmps75
 go_upto_block 0 with (first|((with_reducible refine gate_dst (N:=3) rfl ?_);refine box_event ?hg (N:=3) ?hd (cs:=#[.int .i64 a1_0,.int .i64 a1_1,.int .i64 a1_2,.string a1_3]) (t:=25) ?hr ?_;(case hd=>rfl);(case hg=>rfl);(case hr=>first|(go_simp;done)|(go_simp;rfl));intro gb116 hg w4 hbox hb;have n0_:=Aside0.mk (below_step (by repeat (first|(with_reducible first|exact HB.out|apply below_alloc|apply pw_below_drewN|apply below_drew1)|exact HB.out)) hb);have n1_:=Aside0.mk (hbox);have n2_:=Aside0.mk ((by rw [hg];exact (below_size (by repeat (first|(with_reducible first|exact HB.out|apply below_alloc|apply pw_below_drewN|apply below_drew1)|exact HB.out))):w.heap.size≤gb116));have n3_:=Aside0.mk ((by rw [hg];exact (below_size (by repeat (first|(with_reducible first|exact HB.out|apply below_alloc|apply pw_below_drewN|apply below_drew1)|exact HB.out))):w.heap.size≤gb116));clear HB;have HB:=n0_;have BK116:=n1_;have GW116:=n2_;have GE116:=n3_;clear n0_ n1_ n2_ n3_;clear hb hbox hg)|((with_reducible refine gate_dst (N:=4) rfl ?_);refine box_event ?hg (N:=4) ?hd (cs:=#[.slice none 0 0,.int .i64 0,.int .i64 0,.int .i64 0,.string (⟨#[]⟩:ByteArray),.int .i64 0]) (t:=29) ?hr ?_;(case hd=>rfl);(case hg=>rfl);(case hr=>first|(go_simp;done)|(go_simp;rfl));intro gb117 hg w5 hbox hb;have n0_:=Aside0.mk (blk_below (g:=gb116) (o:=.cells #[.int .i64 a1_0,.int .i64 a1_1,.int .i64 a1_2,.string a1_3] 25 (0,0)) (by (with_reducible repeat (first|refine blk_drewN ?_ _|refine blk_drew ?_|refine blk_alloc ?_ _));exact BK116.out) hb);have n1_:=Aside0.mk (below_step (by repeat (first|(with_reducible first|exact HB.out|apply below_alloc|apply pw_below_drewN|apply below_drew1|refine below_set ?_ GE116.out)|exact HB.out)) hb);have n2_:=Aside0.mk (hbox);have n3_:=Aside0.mk ((by rw [hg];exact (below_size (by repeat (first|(with_reducible first|exact HB.out|apply below_alloc|apply pw_below_drewN|apply below_drew1|refine below_set ?_ GE116.out)|exact HB.out))):w.heap.size≤gb117));have n4_:=Aside0.mk ((by rw [hg];exact (below_size (by repeat (first|(with_reducible first|exact HB.out|apply below_alloc|apply pw_below_drewN|apply below_drew1|refine below_set ?_ GE116.out)|exact HB.out))):w.heap.size≤gb117));have n5_:=Aside0.mk ((by rw [hg];exact Nat.ne_of_lt (blk_lt (g:=gb116) (o:=.cells #[.int .i64 a1_0,.int .i64 a1_1,.int .i64 a1_2,.string a1_3] 25 (0,0)) (by (with_reducible repeat (first|refine blk_drewN ?_ _|refine blk_drew ?_|refine blk_alloc ?_ _));exact BK116.out)):gb116≠gb117));have n6_:=Aside0.mk ((by rw [hg];exact Nat.ne_of_gt (blk_lt (g:=gb116) (o:=.cells #[.int .i64 a1_0,.int .i64 a1_1,.int .i64 a1_2,.string a1_3] 25 (0,0)) (by (with_reducible repeat (first|refine blk_drewN ?_ _|refine blk_drew ?_|refine blk_alloc ?_ _));exact BK116.out)):gb117≠gb116));clear BK116;clear HB;have BK116:=n0_;have HB:=n1_;have BK117:=n2_;have GW117:=n3_;have GE117:=n4_;have NB116_117:=n5_;have NB117_116:=n6_;clear n0_ n1_ n2_ n3_ n4_ n5_ n6_;clear hb hbox hg))
 (try simp only [Act.put,List.setIfInBounds_toArray,List.set_cons_zero,List.set_cons_succ])
 go_cut [5] (fun v5 wc=>∃ (kq:Nat) (x5_2:Int),v5 = .int .i64 x5_2∧Aside0 (spec_l03Put.j1 kq l0 x5_2 a1_0 a1_1 a1_2 a1_3 = some (r1,r2,r3,r4,r5,r6))∧Aside0 (kq≤k)∧Aside0 (wc.heap[gb116]? = some (.cells #[.int .i64 a1_0,.int .i64 a1_1,.int .i64 a1_2,.string a1_3] 25 (0,0)))∧Aside0 (wc.heap[gb117]? = some (.cells #[(.slice none 0 0),.int .i64 0,.int .i64 0,.int .i64 0,.string (⟨#[]⟩:ByteArray),.int .i64 0] 29 (0,0)))∧Aside0 (Below w.heap.size w wc))
 case first =>
  have H:=HC3.out
  clear HC3
  have H':=Aside0.mk H
  clear H
  go_wp2
  go_loopg [5] k (fun kq v5 w'=>∃ (x5_1:Int),v5 = .int .i64 x5_1∧Aside0 (spec_l03Put.l0 kq l0 x5_1 a1_0 a1_1 a1_2 a1_3 = some (r1,r2,r3,r4,r5,r6))∧Aside0 (kq≤k)∧Aside0 (w'.heap[gb116]? = some (.cells #[.int .i64 a1_0,.int .i64 a1_1,.int .i64 a1_2,.string a1_3] 25 (0,0)))∧Aside0 (w'.heap[gb117]? = some (.cells #[(.slice none 0 0),.int .i64 0,.int .i64 0,.int .i64 0,.string (⟨#[]⟩:ByteArray),.int .i64 0] 29 (0,0)))∧Aside0 (Below w.heap.size w w'))
  case atStart=>exact ⟨(0),(by first|rfl|(simp;done)|(simp [*];done)),H',⟨Nat.le_refl _⟩,⟨by (with_reducible repeat (first|refine blk_drewN ?_ _|refine blk_drew ?_|refine blk_alloc ?_ _));exact BK116.out⟩,⟨by (with_reducible repeat (first|refine blk_drewN ?_ _|refine blk_drew ?_|refine blk_alloc ?_ _));exact BK117.out⟩,⟨by repeat (first|(with_reducible first|exact HB.out|apply below_alloc|apply pw_below_drewN|apply below_drew1|refine below_set ?_ GE116.out|refine below_set ?_ GE117.out)|exact HB.out)⟩⟩
  case round =>
   clear H'
   try clear p2
   obtain ⟨x5_1,rfl,HA,HK1,BK116,BK117,HB⟩:=hrel
   cases gk with
   | zero=>exact absurd HA.out (by simp [spec_l03Put.l0])
   | succ k1 =>
    have H:=HA.out
    clear HA
    simp only [spec_l03Put.l0] at H
    by_cases c6:x5_1 < (l0.length:Int)
    ·rw [if_pos c6] at H
     have c6b0:decide (x5_1 < (l0.length:Int)) = true:=decide_eq_true c6
     clear c6
     (first|rw [c6b0]|(simp only [i64_w,i32_w];rw [c6b0])|skip)
     by_cases c7:0≤x5_1
     ·rw [if_pos c7] at H
      have c7b0:decide (0≤x5_1) = true:=decide_eq_true c7
      clear c7
      replace H:=Option.bind_eq_some_iff.mp H
      obtain ⟨t119,A80,H⟩:=H
      replace H:(if t119 = true then (spec_l03Put.l0 k1 l0 (wrap64 (x5_1 + 1)) a1_0 a1_1 a1_2 a1_3) else (spec_l03Put.j1 k1 l0 x5_1 a1_0 a1_1 a1_2 a1_3)) = some (r1,r2,r3,r4,r5,r6):=H
      have A8:=Aside0.mk A80
      clear A80
      by_cases c9:t119 = true
      ·subst c9
       have H1:(spec_l03Put.l0 k1 l0 (wrap64 (x5_1 + 1)) a1_0 a1_1 a1_2 a1_3) = some (r1,r2,r3,r4,r5,r6):=by rw [if_pos rfl] at H;exact H
       clear H
       have H:=H1
       clear H1
       have H':=Aside0.mk H
       clear H
       try go_wp2
       have n0_:=Aside0.mk (blk_drew BK116.out)
       have n1_:=Aside0.mk (blk_drew BK117.out)
       have n2_:=Aside0.mk (below_drew1 HB.out)
       clear BK116
       clear BK117
       clear HB
       have BK116:=n0_
       have BK117:=n1_
       have HB:=n2_
       clear n0_ n1_ n2_
       have p118:0≤(x5_1:Int):=of_decide_eq_true (by first|(with_reducible assumption)|assumption)
       have q118:x5_1 < (l0.length:Int):=of_decide_eq_true (by first|(with_reducible assumption)|assumption)
       obtain ⟨ad118,e118,hx118_0,hx118_1,hx118_2,hx118_3⟩:=at_T25 HR0.out x5_1 p118 q118
       have hw118_3:=hx118_3
       have hw118_2:=hx118_2
       have hw118_1:=hx118_1
       have hw118_0:=hx118_0
       cases e118
       replace hx118_0:=(HB.out.cell (World.block_lt_of_cell? w _ hx118_0)).trans hx118_0
       replace hx118_1:=(HB.out.cell (World.block_lt_of_cell? w _ hx118_1)).trans hx118_1
       replace hx118_2:=(HB.out.cell (World.block_lt_of_cell? w _ hx118_2)).trans hx118_2
       replace hx118_3:=(HB.out.cell (World.block_lt_of_cell? w _ hx118_3)).trans hx118_3
       replace p118:=eq_true p118
       replace q118:=eq_true q118
       refine start_ (n:=12) (S:=fun w'=>w'.cell? ⟨gb116,0,none⟩ = some (.int .i64 a1_0)∧w'.cell? ⟨gb116,1,none⟩ = some (.int .i64 a1_1)∧w'.cell? ⟨gb116,2,none⟩ = some (.int .i64 a1_2)∧w'.cell? ⟨gb116,3,none⟩ = some (.string a1_3)∧w'.cell? (ad118.add ((x5_1).toNat * 4)) = some (.int .i64 ((rd_T25 l0 x5_1).f0))∧w'.cell? ⟨(ad118.add ((x5_1).toNat * 4)).block,(ad118.add ((x5_1).toNat * 4)).off + 1,none⟩ = some (.int .i64 ((rd_T25 l0 x5_1).f1))∧w'.cell? ⟨(ad118.add ((x5_1).toNat * 4)).block,(ad118.add ((x5_1).toNat * 4)).off + 2,none⟩ = some (.int .i64 ((rd_T25 l0 x5_1).f2))∧w'.cell? ⟨(ad118.add ((x5_1).toNat * 4)).block,(ad118.add ((x5_1).toNat * 4)).off + 3,none⟩ = some (.string ((rd_T25 l0 x5_1).f3))) (ds:=[]) #[false,false,false,false,false,false,false,false,false,false,false,false] (by kernel_rfl) rfl rfl ⟨(blk_cell BK116.out 0).trans rfl,(blk_cell BK116.out 1).trans rfl,(blk_cell BK116.out 2).trans rfl,(blk_cell BK116.out 3).trans rfl,((HB.out.cell (World.block_lt_of_cell? w _ hw118_0)).trans hw118_0),((HB.out.cell (World.block_lt_of_cell? w _ hw118_1)).trans hw118_1),((HB.out.cell (World.block_lt_of_cell? w _ hw118_2)).trans hw118_2),((HB.out.cell (World.block_lt_of_cell? w _ hw118_3)).trans hw118_3)⟩ (fun hHeld=>?_);refine with_tabW spec_l03Put.tab2 spec_l03Put.bits2 (fun HT_ HW_=>?_)
       generalize wr.drew = w10 at BK116 BK117 HB hx118_0 hx118_1 hx118_2 hx118_3 hHeld ⊢
       refine pure_ (i:=0) (N:=some 7) (v:=?_) (a':=?_) #[true,false,false,false,false,false,false,false,false,false,false,false] rfl rfl (any_of HT_.out (by kernel_rfl)) (fun _ _ _ h=>h) (Or.inl ⟨by rfl,?_⟩) ?_ ?_
       rotate_left
       ·intro w'
        go_simp
        with_reducible rfl
       rotate_left
       ·simp only [Act.put,List.setIfInBounds_toArray,List.set_cons_zero,List.set_cons_succ,i64_w,i32_w]
        rfl
       refine pure_ (i:=1) (N:=some 8) (v:=?_) (a':=?_) #[true,true,false,false,false,false,false,false,false,false,false,false] rfl rfl (any_of HT_.out (by kernel_rfl)) (fun _ _ _ h=>h) (Or.inl ⟨by rfl,?_⟩) ?_ ?_
       rotate_left
       ·intro w'
        go_simp
        with_reducible rfl
       rotate_left
       ·simp only [Act.put,List.setIfInBounds_toArray,List.set_cons_zero,List.set_cons_succ,i64_w,i32_w]
        rfl
       refine pure_ (i:=2) (N:=some 9) (v:=?_) (a':=?_) #[true,true,true,false,false,false,false,false,false,false,false,false] rfl rfl (any_of HT_.out (by kernel_rfl)) (fun _ _ _ h=>h) (Or.inl ⟨by rfl,?_⟩) ?_ ?_
       rotate_left
       ·intro w'
        go_simp
        with_reducible rfl
       rotate_left
       ·simp only [Act.put,List.setIfInBounds_toArray,List.set_cons_zero,List.set_cons_succ,i64_w,i32_w]
        rfl
       refine pure_ (i:=3) (N:=some 10) (v:=?_) (a':=?_) #[true,true,true,true,false,false,false,false,false,false,false,false] rfl rfl (any_of HT_.out (by kernel_rfl)) (fun _ _ _ h=>h) (Or.inl ⟨by rfl,?_⟩) ?_ ?_
       rotate_left
       ·intro w'
        go_simp
        with_reducible rfl
       rotate_left
       ·simp only [Act.put,List.setIfInBounds_toArray,List.set_cons_zero,List.set_cons_succ,i64_w,i32_w]
        rfl
       refine pure_ (i:=4) (N:=some 11) (v:=?_) (a':=?_) #[true,true,true,true,true,false,false,false,false,false,false,false] rfl rfl (any_of HT_.out (by kernel_rfl)) (fun _ _ _ h=>h) (Or.inl ⟨by rfl,?_⟩) ?_ ?_
       rotate_left
       ·intro w'
        go_simp
        with_reducible rfl
       rotate_left
       ·simp only [Act.put,List.setIfInBounds_toArray,List.set_cons_zero,List.set_cons_succ,i64_w,i32_w]
        rfl
       refine pure_ (i:=5) (N:=some 12) (v:=?_) (a':=?_) #[true,true,true,true,true,true,false,false,false,false,false,false] rfl rfl (any_of HT_.out (by kernel_rfl)) (fun _ _ _ h=>h) (Or.inl ⟨by rfl,?_⟩) ?_ ?_
       rotate_left
       ·intro w'
        go_simp
        with_reducible rfl
       rotate_left
       ·simp only [Act.put,List.setIfInBounds_toArray,List.set_cons_zero,List.set_cons_succ,i64_w,i32_w]
        rfl
       refine pure_ (i:=6) (N:=some 13) (v:=?_) (a':=?_) #[true,true,true,true,true,true,true,false,false,false,false,false] rfl rfl (any_of HT_.out (by kernel_rfl)) (fun _ _ _ h=>h) (Or.inl ⟨by rfl,?_⟩) ?_ ?_
       rotate_left
       ·intro w'
        go_simp
        with_reducible rfl
       rotate_left
       ·simp only [Act.put,List.setIfInBounds_toArray,List.set_cons_zero,List.set_cons_succ,i64_w,i32_w]
        rfl
       refine pure_ (i:=7) (N:=some 14) (v:=?_) (a':=?_) #[true,true,true,true,true,true,true,true,false,false,false,false] rfl rfl (any_of HT_.out (by kernel_rfl)) (fun _ _ _ h=>h) (Or.inl ⟨by rfl,?_⟩) ?_ ?_
       rotate_left
       ·intro w'
        go_simp
        with_reducible rfl
       rotate_left
       ·simp only [Act.put,List.setIfInBounds_toArray,List.set_cons_zero,List.set_cons_succ,i64_w,i32_w]
        rfl
       refine take_ (i:=8) (N:=some 15) (v:=?_) (a':=?_) #[true,true,true,true,true,true,true,true,true,false,false,false] rfl rfl (take_ofW HT_.out HW_.out (by kernel_rfl)) (fun _ _ _ h=>h) (Or.inl ⟨by rfl,?_⟩) hHeld ?_ ?_
       rotate_left
       ·rintro w' ⟨s0,s1,s2,s3,s4,s5,s6,s7⟩
        go_simp
        with_reducible rfl
       rotate_left
       ·simp only [Act.put,List.setIfInBounds_toArray,List.set_cons_zero,List.set_cons_succ,i64_w,i32_w]
        rfl
       refine take_ (i:=9) (N:=some 16) (v:=?_) (a':=?_) #[true,true,true,true,true,true,true,true,true,true,false,false] rfl rfl (take_ofW HT_.out HW_.out (by kernel_rfl)) (fun _ _ _ h=>h) (Or.inl ⟨by rfl,?_⟩) hHeld ?_ ?_
       rotate_left
       ·rintro w' ⟨s0,s1,s2,s3,s4,s5,s6,s7⟩
        go_simp
        with_reducible rfl
       rotate_left
       ·simp only [Act.put,List.setIfInBounds_toArray,List.set_cons_zero,List.set_cons_succ,i64_w,i32_w]
        rfl
       refine one_ (i:=10) (N:=some 17) #[true,true,true,true,true,true,true,true,true,true,true,false] rfl rfl (one_of HT_.out (by kernel_rfl)) (by decide) (fun K hK=>?_)
       refine goes_ Try.func77 (by kernel_rfl) rfl #[.agg #[.int .i64 ((rd_T25 l0 x5_1).f0),.int .i64 ((rd_T25 l0 x5_1).f1),.int .i64 ((rd_T25 l0 x5_1).f2),.string ((rd_T25 l0 x5_1).f3)],.agg #[.int .i64 a1_0,.int .i64 a1_1,.int .i64 a1_2,.string a1_3]] (by rfl) rfl rfl (by (try simp only [List.map_toArray,List.map_cons,List.map_nil]);first|done|rfl|(simp only [List.length_drop,List.length_take];rfl)) ?_
       with_reducible refine (spec_l03Less.calls ((rd_T25 l0 x5_1).f0) ((rd_T25 l0 x5_1).f1) ((rd_T25 l0 x5_1).f2) ((rd_T25 l0 x5_1).f3) a1_0 a1_1 a1_2 a1_3 true _ A8.out).mono ?_
       rintro e w11 ⟨rfl,hb⟩
       refine ⟨_,rfl,?_⟩
       have n0_:=Aside0.mk (blk_below (g:=gb116) (o:=.cells #[.int .i64 a1_0,.int .i64 a1_1,.int .i64 a1_2,.string a1_3] 25 (0,0)) (by (with_reducible repeat (first|refine blk_drewN ?_ _|refine blk_drew ?_|refine blk_alloc ?_ _));exact BK116.out) hb)
       have n1_:=Aside0.mk (blk_below (g:=gb117) (o:=.cells #[.slice none 0 0,.int .i64 0,.int .i64 0,.int .i64 0,.string (⟨#[]⟩:ByteArray),.int .i64 0] 29 (0,0)) (by (with_reducible repeat (first|refine blk_drewN ?_ _|refine blk_drew ?_|refine blk_alloc ?_ _));exact BK117.out) hb)
       have n2_:=Aside0.mk (below_step (by repeat (first|(with_reducible first|exact HB.out|apply below_alloc|apply pw_below_drewN|apply below_drew1|refine below_set ?_ GE116.out|refine below_set ?_ GE117.out)|exact HB.out)) hb)
       clear BK116
       clear BK117
       clear HB
       have BK116:=n0_
       have BK117:=n1_
       have HB:=n2_
       clear n0_ n1_ n2_
       (try clear hb)
       (try clear hb2)
       (try clear hk)
       (try clear hi)
       refine hK.out _ _ ⟨(blk_cell BK116.out 0).trans rfl,(blk_cell BK116.out 1).trans rfl,(blk_cell BK116.out 2).trans rfl,(blk_cell BK116.out 3).trans rfl,((HB.out.cell (World.block_lt_of_cell? w _ hw118_0)).trans hw118_0),((HB.out.cell (World.block_lt_of_cell? w _ hw118_1)).trans hw118_1),((HB.out.cell (World.block_lt_of_cell? w _ hw118_2)).trans hw118_2),((HB.out.cell (World.block_lt_of_cell? w _ hw118_3)).trans hw118_3)⟩ (fun hHeld=>?_)
       clear hK K
       refine norm_ (a':=?_) ?_ ?_
       rotate_left
       ·show Act.put _ (some 17) _ = _
        simp only [Act.put,List.setIfInBounds_toArray,List.set_cons_zero,List.set_cons_succ,i64_w,i32_w]
        rfl
       refine pure_ (i:=11) (N:=some 18) (v:=?_) (a':=?_) #[true,true,true,true,true,true,true,true,true,true,true,true] rfl rfl (any_of HT_.out (by kernel_rfl)) (fun _ _ _ h=>h) (Or.inl ⟨by rfl,?_⟩) ?_ ?_
       rotate_left
       ·intro w'
        go_simp
        with_reducible rfl
       rotate_left
       ·simp only [Act.put,List.setIfInBounds_toArray,List.set_cons_zero,List.set_cons_succ,i64_w,i32_w]
        rfl
       refine done_ (done_of HT_.out (by kernel_rfl)) ?_
       try go_wp2
       go_roundg k1
       case measure=>have:=HK1.out;omega
       case rel=>exact ⟨(wrap64 (x5_1 + 1)),(by first|rfl|(simp;done)|(simp [*];done)),H',⟨by have:=HK1.out;omega⟩,⟨by (with_reducible repeat (first|refine blk_drewN ?_ _|refine blk_drew ?_|refine blk_alloc ?_ _));exact BK116.out⟩,⟨by (with_reducible repeat (first|refine blk_drewN ?_ _|refine blk_drew ?_|refine blk_alloc ?_ _));exact BK117.out⟩,⟨by repeat (first|(with_reducible first|exact HB.out|apply below_alloc|apply pw_below_drewN|apply below_drew1|refine below_set ?_ GE116.out|refine below_set ?_ GE117.out)|exact HB.out)⟩⟩
      ·replace c9:=Bool.eq_false_iff.mpr c9
       subst c9
       have H1:(spec_l03Put.j1 k1 l0 x5_1 a1_0 a1_1 a1_2 a1_3) = some (r1,r2,r3,r4,r5,r6):=by rw [if_neg (show ¬ (false = true) by decide)] at H;exact H
       clear H
       have H:=H1
       clear H1
       have H':=Aside0.mk H
       clear H
       try go_wp2
       have n0_:=Aside0.mk (blk_drew BK116.out)
       have n1_:=Aside0.mk (blk_drew BK117.out)
       have n2_:=Aside0.mk (below_drew1 HB.out)
       clear BK116
       clear BK117
       clear HB
       have BK116:=n0_
       have BK117:=n1_
       have HB:=n2_
       clear n0_ n1_ n2_
       have p118:0≤(x5_1:Int):=of_decide_eq_true (by first|(with_reducible assumption)|assumption)
       have q118:x5_1 < (l0.length:Int):=of_decide_eq_true (by first|(with_reducible assumption)|assumption)
       obtain ⟨ad118,e118,hx118_0,hx118_1,hx118_2,hx118_3⟩:=at_T25 HR0.out x5_1 p118 q118
       have hw118_3:=hx118_3
       have hw118_2:=hx118_2
       have hw118_1:=hx118_1
       have hw118_0:=hx118_0
       cases e118
       replace hx118_0:=(HB.out.cell (World.block_lt_of_cell? w _ hx118_0)).trans hx118_0
       replace hx118_1:=(HB.out.cell (World.block_lt_of_cell? w _ hx118_1)).trans hx118_1
       replace hx118_2:=(HB.out.cell (World.block_lt_of_cell? w _ hx118_2)).trans hx118_2
       replace hx118_3:=(HB.out.cell (World.block_lt_of_cell? w _ hx118_3)).trans hx118_3
       replace p118:=eq_true p118
       replace q118:=eq_true q118
       refine start_ (n:=12) (S:=fun w'=>w'.cell? ⟨gb116,0,none⟩ = some (.int .i64 a1_0)∧w'.cell? ⟨gb116,1,none⟩ = some (.int .i64 a1_1)∧w'.cell? ⟨gb116,2,none⟩ = some (.int .i64 a1_2)∧w'.cell? ⟨gb116,3,none⟩ = some (.string a1_3)∧w'.cell? (ad118.add ((x5_1).toNat * 4)) = some (.int .i64 ((rd_T25 l0 x5_1).f0))∧w'.cell? ⟨(ad118.add ((x5_1).toNat * 4)).block,(ad118.add ((x5_1).toNat * 4)).off + 1,none⟩ = some (.int .i64 ((rd_T25 l0 x5_1).f1))∧w'.cell? ⟨(ad118.add ((x5_1).toNat * 4)).block,(ad118.add ((x5_1).toNat * 4)).off + 2,none⟩ = some (.int .i64 ((rd_T25 l0 x5_1).f2))∧w'.cell? ⟨(ad118.add ((x5_1).toNat * 4)).block,(ad118.add ((x5_1).toNat * 4)).off + 3,none⟩ = some (.string ((rd_T25 l0 x5_1).f3))) (ds:=[]) #[false,false,false,false,false,false,false,false,false,false,false,false] (by kernel_rfl) rfl rfl ⟨(blk_cell BK116.out 0).trans rfl,(blk_cell BK116.out 1).trans rfl,(blk_cell BK116.out 2).trans rfl,(blk_cell BK116.out 3).trans rfl,((HB.out.cell (World.block_lt_of_cell? w _ hw118_0)).trans hw118_0),((HB.out.cell (World.block_lt_of_cell? w _ hw118_1)).trans hw118_1),((HB.out.cell (World.block_lt_of_cell? w _ hw118_2)).trans hw118_2),((HB.out.cell (World.block_lt_of_cell? w _ hw118_3)).trans hw118_3)⟩ (fun hHeld=>?_);refine with_tabW spec_l03Put.tab2 spec_l03Put.bits2 (fun HT_ HW_=>?_)
       generalize wr.drew = w12 at BK116 BK117 HB hx118_0 hx118_1 hx118_2 hx118_3 hHeld ⊢
       refine pure_ (i:=0) (N:=some 7) (v:=?_) (a':=?_) #[true,false,false,false,false,false,false,false,false,false,false,false] rfl rfl (any_of HT_.out (by kernel_rfl)) (fun _ _ _ h=>h) (Or.inl ⟨by rfl,?_⟩) ?_ ?_
       rotate_left
       ·intro w'
        go_simp
        with_reducible rfl
       rotate_left
       ·simp only [Act.put,List.setIfInBounds_toArray,List.set_cons_zero,List.set_cons_succ,i64_w,i32_w]
        rfl
       refine pure_ (i:=1) (N:=some 8) (v:=?_) (a':=?_) #[true,true,false,false,false,false,false,false,false,false,false,false] rfl rfl (any_of HT_.out (by kernel_rfl)) (fun _ _ _ h=>h) (Or.inl ⟨by rfl,?_⟩) ?_ ?_
       rotate_left
       ·intro w'
        go_simp
        with_reducible rfl
       rotate_left
       ·simp only [Act.put,List.setIfInBounds_toArray,List.set_cons_zero,List.set_cons_succ,i64_w,i32_w]
        rfl
       refine pure_ (i:=2) (N:=some 9) (v:=?_) (a':=?_) #[true,true,true,false,false,false,false,false,false,false,false,false] rfl rfl (any_of HT_.out (by kernel_rfl)) (fun _ _ _ h=>h) (Or.inl ⟨by rfl,?_⟩) ?_ ?_
       rotate_left
       ·intro w'
        go_simp
        with_reducible rfl
       rotate_left
       ·simp only [Act.put,List.setIfInBounds_toArray,List.set_cons_zero,List.set_cons_succ,i64_w,i32_w]
        rfl
       refine pure_ (i:=3) (N:=some 10) (v:=?_) (a':=?_) #[true,true,true,true,false,false,false,false,false,false,false,false] rfl rfl (any_of HT_.out (by kernel_rfl)) (fun _ _ _ h=>h) (Or.inl ⟨by rfl,?_⟩) ?_ ?_
       rotate_left
       ·intro w'
        go_simp
        with_reducible rfl
       rotate_left
       ·simp only [Act.put,List.setIfInBounds_toArray,List.set_cons_zero,List.set_cons_succ,i64_w,i32_w]
        rfl
       refine pure_ (i:=4) (N:=some 11) (v:=?_) (a':=?_) #[true,true,true,true,true,false,false,false,false,false,false,false] rfl rfl (any_of HT_.out (by kernel_rfl)) (fun _ _ _ h=>h) (Or.inl ⟨by rfl,?_⟩) ?_ ?_
       rotate_left
       ·intro w'
        go_simp
        with_reducible rfl
       rotate_left
       ·simp only [Act.put,List.setIfInBounds_toArray,List.set_cons_zero,List.set_cons_succ,i64_w,i32_w]
        rfl
       refine pure_ (i:=5) (N:=some 12) (v:=?_) (a':=?_) #[true,true,true,true,true,true,false,false,false,false,false,false] rfl rfl (any_of HT_.out (by kernel_rfl)) (fun _ _ _ h=>h) (Or.inl ⟨by rfl,?_⟩) ?_ ?_
       rotate_left
       ·intro w'
        go_simp
        with_reducible rfl
       rotate_left
       ·simp only [Act.put,List.setIfInBounds_toArray,List.set_cons_zero,List.set_cons_succ,i64_w,i32_w]
        rfl
       refine pure_ (i:=6) (N:=some 13) (v:=?_) (a':=?_) #[true,true,true,true,true,true,true,false,false,false,false,false] rfl rfl (any_of HT_.out (by kernel_rfl)) (fun _ _ _ h=>h) (Or.inl ⟨by rfl,?_⟩) ?_ ?_
       rotate_left
       ·intro w'
        go_simp
        with_reducible rfl
       rotate_left
       ·simp only [Act.put,List.setIfInBounds_toArray,List.set_cons_zero,List.set_cons_succ,i64_w,i32_w]
        rfl
       refine pure_ (i:=7) (N:=some 14) (v:=?_) (a':=?_) #[true,true,true,true,true,true,true,true,false,false,false,false] rfl rfl (any_of HT_.out (by kernel_rfl)) (fun _ _ _ h=>h) (Or.inl ⟨by rfl,?_⟩) ?_ ?_
       rotate_left
       ·intro w'
        go_simp
        with_reducible rfl
       rotate_left
       ·simp only [Act.put,List.setIfInBounds_toArray,List.set_cons_zero,List.set_cons_succ,i64_w,i32_w]
        rfl
       refine take_ (i:=8) (N:=some 15) (v:=?_) (a':=?_) #[true,true,true,true,true,true,true,true,true,false,false,false] rfl rfl (take_ofW HT_.out HW_.out (by kernel_rfl)) (fun _ _ _ h=>h) (Or.inl ⟨by rfl,?_⟩) hHeld ?_ ?_
       rotate_left
       ·rintro w' ⟨s0,s1,s2,s3,s4,s5,s6,s7⟩
        go_simp
        with_reducible rfl
       rotate_left
       ·simp only [Act.put,List.setIfInBounds_toArray,List.set_cons_zero,List.set_cons_succ,i64_w,i32_w]
        rfl
       refine take_ (i:=9) (N:=some 16) (v:=?_) (a':=?_) #[true,true,true,true,true,true,true,true,true,true,false,false] rfl rfl (take_ofW HT_.out HW_.out (by kernel_rfl)) (fun _ _ _ h=>h) (Or.inl ⟨by rfl,?_⟩) hHeld ?_ ?_
       rotate_left
       ·rintro w' ⟨s0,s1,s2,s3,s4,s5,s6,s7⟩
        go_simp
        with_reducible rfl
       rotate_left
       ·simp only [Act.put,List.setIfInBounds_toArray,List.set_cons_zero,List.set_cons_succ,i64_w,i32_w]
        rfl
       refine one_ (i:=10) (N:=some 17) #[true,true,true,true,true,true,true,true,true,true,true,false] rfl rfl (one_of HT_.out (by kernel_rfl)) (by decide) (fun K hK=>?_)
       refine goes_ Try.func77 (by kernel_rfl) rfl #[.agg #[.int .i64 ((rd_T25 l0 x5_1).f0),.int .i64 ((rd_T25 l0 x5_1).f1),.int .i64 ((rd_T25 l0 x5_1).f2),.string ((rd_T25 l0 x5_1).f3)],.agg #[.int .i64 a1_0,.int .i64 a1_1,.int .i64 a1_2,.string a1_3]] (by rfl) rfl rfl (by (try simp only [List.map_toArray,List.map_cons,List.map_nil]);first|done|rfl|(simp only [List.length_drop,List.length_take];rfl)) ?_
       with_reducible refine (spec_l03Less.calls ((rd_T25 l0 x5_1).f0) ((rd_T25 l0 x5_1).f1) ((rd_T25 l0 x5_1).f2) ((rd_T25 l0 x5_1).f3) a1_0 a1_1 a1_2 a1_3 false _ A8.out).mono ?_
       rintro e w13 ⟨rfl,hb⟩
       refine ⟨_,rfl,?_⟩
       have n0_:=Aside0.mk (blk_below (g:=gb116) (o:=.cells #[.int .i64 a1_0,.int .i64 a1_1,.int .i64 a1_2,.string a1_3] 25 (0,0)) (by (with_reducible repeat (first|refine blk_drewN ?_ _|refine blk_drew ?_|refine blk_alloc ?_ _));exact BK116.out) hb)
       have n1_:=Aside0.mk (blk_below (g:=gb117) (o:=.cells #[.slice none 0 0,.int .i64 0,.int .i64 0,.int .i64 0,.string (⟨#[]⟩:ByteArray),.int .i64 0] 29 (0,0)) (by (with_reducible repeat (first|refine blk_drewN ?_ _|refine blk_drew ?_|refine blk_alloc ?_ _));exact BK117.out) hb)
       have n2_:=Aside0.mk (below_step (by repeat (first|(with_reducible first|exact HB.out|apply below_alloc|apply pw_below_drewN|apply below_drew1|refine below_set ?_ GE116.out|refine below_set ?_ GE117.out)|exact HB.out)) hb)
       clear BK116
       clear BK117
       clear HB
       have BK116:=n0_
       have BK117:=n1_
       have HB:=n2_
       clear n0_ n1_ n2_
       (try clear hb)
       (try clear hb2)
       (try clear hk)
       (try clear hi)
       refine hK.out _ _ ⟨(blk_cell BK116.out 0).trans rfl,(blk_cell BK116.out 1).trans rfl,(blk_cell BK116.out 2).trans rfl,(blk_cell BK116.out 3).trans rfl,((HB.out.cell (World.block_lt_of_cell? w _ hw118_0)).trans hw118_0),((HB.out.cell (World.block_lt_of_cell? w _ hw118_1)).trans hw118_1),((HB.out.cell (World.block_lt_of_cell? w _ hw118_2)).trans hw118_2),((HB.out.cell (World.block_lt_of_cell? w _ hw118_3)).trans hw118_3)⟩ (fun hHeld=>?_)
       clear hK K
       refine norm_ (a':=?_) ?_ ?_
       rotate_left
       ·show Act.put _ (some 17) _ = _
        simp only [Act.put,List.setIfInBounds_toArray,List.set_cons_zero,List.set_cons_succ,i64_w,i32_w]
        rfl
       refine pure_ (i:=11) (N:=some 18) (v:=?_) (a':=?_) #[true,true,true,true,true,true,true,true,true,true,true,true] rfl rfl (any_of HT_.out (by kernel_rfl)) (fun _ _ _ h=>h) (Or.inl ⟨by rfl,?_⟩) ?_ ?_
       rotate_left
       ·intro w'
        go_simp
        with_reducible rfl
       rotate_left
       ·simp only [Act.put,List.setIfInBounds_toArray,List.set_cons_zero,List.set_cons_succ,i64_w,i32_w]
        rfl
       refine done_ (done_of HT_.out (by kernel_rfl)) ?_
       try go_wp2
       go_meet
       case rel=>exact ⟨_,(x5_1),(by first|rfl|(simp;done)|(simp [*];done)),H',⟨by have:=HK1.out;first|omega|exact Nat.le_refl _⟩,⟨by (with_reducible repeat (first|refine blk_drewN ?_ _|refine blk_drew ?_|refine blk_alloc ?_ _));exact BK116.out⟩,⟨by (with_reducible repeat (first|refine blk_drewN ?_ _|refine blk_drew ?_|refine blk_alloc ?_ _));exact BK117.out⟩,⟨by repeat (first|(with_reducible first|exact HB.out|apply below_alloc|apply pw_below_drewN|apply below_drew1|refine below_set ?_ GE116.out|refine below_set ?_ GE117.out)|exact HB.out)⟩⟩
     ·rw [if_neg c7] at H
      exact absurd H (by simp)
    ·rw [if_neg c6] at H
     have c6b0:decide (x5_1 < (l0.length:Int)) = false:=decide_eq_false c6
     clear c6
     (first|rw [c6b0]|(simp only [i64_w,i32_w];rw [c6b0])|skip)
     have H':=Aside0.mk H
     clear H
     try go_wp2
     have n0_:=Aside0.mk (blk_drew BK116.out)
     have n1_:=Aside0.mk (blk_drew BK117.out)
     have n2_:=Aside0.mk (below_drew1 HB.out)
     clear BK116
     clear BK117
     clear HB
     have BK116:=n0_
     have BK117:=n1_
     have HB:=n2_
     clear n0_ n1_ n2_
     refine start_ (n:=12) (S:=fun w'=>True) (ds:=[]) #[false,false,false,false,false,false,false,false,false,false,false,false] (by kernel_rfl) rfl rfl trivial (fun hHeld=>?_);refine with_tabW spec_l03Put.tab2 spec_l03Put.bits2 (fun HT_ HW_=>?_)
     generalize wr.drew = w14 at BK116 BK117 HB hHeld ⊢
     refine pure_ (i:=0) (N:=some 7) (v:=?_) (a':=?_) #[true,false,false,false,false,false,false,false,false,false,false,false] rfl rfl (any_of HT_.out (by kernel_rfl)) (fun _ _ _ h=>h) (Or.inl ⟨by rfl,?_⟩) ?_ ?_
     rotate_left
     ·intro w'
      go_simp
      with_reducible rfl
     rotate_left
     ·simp only [Act.put,List.setIfInBounds_toArray,List.set_cons_zero,List.set_cons_succ,i64_w,i32_w]
      rfl
     refine pure_ (i:=1) (N:=some 8) (v:=?_) (a':=?_) #[true,true,false,false,false,false,false,false,false,false,false,false] rfl rfl (any_of HT_.out (by kernel_rfl)) (fun _ _ _ h=>h) (Or.inl ⟨by rfl,?_⟩) ?_ ?_
     rotate_left
     ·intro w'
      go_simp
      with_reducible rfl
     rotate_left
     ·simp only [Act.put,List.setIfInBounds_toArray,List.set_cons_zero,List.set_cons_succ,i64_w,i32_w]
      rfl
     refine pure_ (i:=2) (N:=some 9) (v:=?_) (a':=?_) #[true,true,true,false,false,false,false,false,false,false,false,false] rfl rfl (any_of HT_.out (by kernel_rfl)) (fun _ _ _ h=>h) (Or.inl ⟨by rfl,?_⟩) ?_ ?_
     rotate_left
     ·intro w'
      go_simp
      with_reducible rfl
     rotate_left
     ·simp only [Act.put,List.setIfInBounds_toArray,List.set_cons_zero,List.set_cons_succ,i64_w,i32_w]
      rfl
     refine pure_ (i:=3) (N:=some 10) (v:=?_) (a':=?_) #[true,true,true,true,false,false,false,false,false,false,false,false] rfl rfl (any_of HT_.out (by kernel_rfl)) (fun _ _ _ h=>h) (Or.inl ⟨by rfl,?_⟩) ?_ ?_
     rotate_left
     ·intro w'
      go_simp
      with_reducible rfl
     rotate_left
     ·simp only [Act.put,List.setIfInBounds_toArray,List.set_cons_zero,List.set_cons_succ,i64_w,i32_w]
      rfl
     refine pure_ (i:=4) (N:=some 11) (v:=?_) (a':=?_) #[true,true,true,true,true,false,false,false,false,false,false,false] rfl rfl (any_of HT_.out (by kernel_rfl)) (fun _ _ _ h=>h) (Or.inl ⟨by rfl,?_⟩) ?_ ?_
     rotate_left
     ·intro w'
      go_simp
      with_reducible rfl
     rotate_left
     ·simp only [Act.put,List.setIfInBounds_toArray,List.set_cons_zero,List.set_cons_succ,i64_w,i32_w]
      rfl
     refine pure_ (i:=5) (N:=some 12) (v:=undef) (a':=?_) #[true,true,true,true,true,true,false,false,false,false,false,false] rfl rfl (any_of HT_.out (by kernel_rfl)) (fun _ _ _ h=>h) (Or.inr ⟨by rfl,rfl⟩) ?_ ?_
     rotate_left
     ·simp only [Act.put,List.setIfInBounds_toArray,List.set_cons_zero,List.set_cons_succ,i64_w,i32_w]
      rfl
     refine pure_ (i:=6) (N:=some 13) (v:=undef) (a':=?_) #[true,true,true,true,true,true,true,false,false,false,false,false] rfl rfl (any_of HT_.out (by kernel_rfl)) (fun _ _ _ h=>h) (Or.inr ⟨by rfl,rfl⟩) ?_ ?_
     rotate_left
     ·simp only [Act.put,List.setIfInBounds_toArray,List.set_cons_zero,List.set_cons_succ,i64_w,i32_w]
      rfl
     refine pure_ (i:=7) (N:=some 14) (v:=undef) (a':=?_) #[true,true,true,true,true,true,true,true,false,false,false,false] rfl rfl (any_of HT_.out (by kernel_rfl)) (fun _ _ _ h=>h) (Or.inr ⟨by rfl,rfl⟩) ?_ ?_
     rotate_left
     ·simp only [Act.put,List.setIfInBounds_toArray,List.set_cons_zero,List.set_cons_succ,i64_w,i32_w]
      rfl
     refine pure_ (i:=8) (N:=some 15) (v:=undef) (a':=?_) #[true,true,true,true,true,true,true,true,true,false,false,false] rfl rfl (any_of HT_.out (by kernel_rfl)) (fun _ _ _ h=>h) (Or.inr ⟨by rfl,rfl⟩) ?_ ?_
     rotate_left
     ·simp only [Act.put,List.setIfInBounds_toArray,List.set_cons_zero,List.set_cons_succ,i64_w,i32_w]
      rfl
     refine pure_ (i:=9) (N:=some 16) (v:=undef) (a':=?_) #[true,true,true,true,true,true,true,true,true,true,false,false] rfl rfl (any_of HT_.out (by kernel_rfl)) (fun _ _ _ h=>h) (Or.inr ⟨by rfl,rfl⟩) ?_ ?_
     rotate_left
     ·simp only [Act.put,List.setIfInBounds_toArray,List.set_cons_zero,List.set_cons_succ,i64_w,i32_w]
      rfl
     refine pure_ (i:=10) (N:=some 17) (v:=undef) (a':=?_) #[true,true,true,true,true,true,true,true,true,true,true,false] rfl rfl (any_of HT_.out (by kernel_rfl)) (fun _ _ _ h=>h) (Or.inr ⟨by rfl,rfl⟩) ?_ ?_
     rotate_left
     ·simp only [Act.put,List.setIfInBounds_toArray,List.set_cons_zero,List.set_cons_succ,i64_w,i32_w]
      rfl
     refine pure_ (i:=11) (N:=some 18) (v:=?_) (a':=?_) #[true,true,true,true,true,true,true,true,true,true,true,true] rfl rfl (any_of HT_.out (by kernel_rfl)) (fun _ _ _ h=>h) (Or.inl ⟨by rfl,?_⟩) ?_ ?_
     rotate_left
     ·intro w'
      go_simp
      with_reducible rfl
     rotate_left
     ·simp only [Act.put,List.setIfInBounds_toArray,List.set_cons_zero,List.set_cons_succ,i64_w,i32_w]
      rfl
     refine done_ (done_of HT_.out (by kernel_rfl)) ?_
     try go_wp2
     go_meet
     case rel=>exact ⟨_,(x5_1),(by first|rfl|(simp;done)|(simp [*];done)),H',⟨by have:=HK1.out;first|omega|exact Nat.le_refl _⟩,⟨by (with_reducible repeat (first|refine blk_drewN ?_ _|refine blk_drew ?_|refine blk_alloc ?_ _));exact BK116.out⟩,⟨by (with_reducible repeat (first|refine blk_drewN ?_ _|refine blk_drew ?_|refine blk_alloc ?_ _));exact BK117.out⟩,⟨by repeat (first|(with_reducible first|exact HB.out|apply below_alloc|apply pw_below_drewN|apply below_drew1|refine below_set ?_ GE116.out|refine below_set ?_ GE117.out)|exact HB.out)⟩⟩
 case rest =>
  clear HC3
  try clear p1
  try clear q1
  try clear hx1
  try clear p2
  try clear c6
  try clear c6b0
  try clear p6
  try clear c7
  try clear c7b0
  try clear c9
  try clear p11
  try clear q11
  try clear hx11
  try clear hx118_0
  try clear hx118_1
  try clear hx118_2
  try clear hx118_3
  try clear p118
  try clear p2
  try clear q118
  obtain ⟨kq,x5_2,rfl,HA,HJ2,BK116,BK117,HB⟩:=hcut
  cases kq with
  | zero=>exact absurd HA.out (by simp [spec_l03Put.j1])
  | succ kj2 =>
   have H:=HA.out
   clear HA
   simp only [spec_l03Put.j1] at H
   have HC15:=Aside0.mk H
   clear H
   go_upto_region 4 with (fail)
   go_cut [33] (fun v33 wc=>∃ (kq:Nat) (x33_14:Bool),v33 = .bool x33_14∧Aside0 (spec_l03Put.j2 kq l0 x5_2 x33_14 a1_0 a1_1 a1_2 a1_3 = some (r1,r2,r3,r4,r5,r6))∧Aside0 (kq≤kj2)∧Aside0 (wc.heap[gb116]? = some (.cells #[.int .i64 a1_0,.int .i64 a1_1,.int .i64 a1_2,.string a1_3] 25 (0,0)))∧Aside0 (wc.heap[gb117]? = some (.cells #[(.slice none 0 0),.int .i64 0,.int .i64 0,.int .i64 0,.string (⟨#[]⟩:ByteArray),.int .i64 0] 29 (0,0)))∧Aside0 (Below w.heap.size w wc))
   case first =>
    have H:=HC15.out
    clear HC15
    by_cases c16:x5_2 < (l0.length:Int)
    ·rw [if_pos c16] at H
     have c16b0:decide (x5_2 < (l0.length:Int)) = true:=decide_eq_true c16
     clear c16
     (first|rw [c16b0]|(simp only [i64_w,i32_w];rw [c16b0])|skip)
     by_cases c17:0≤x5_2
     ·rw [if_pos c17] at H
      have c17b0:decide (0≤x5_2) = true:=decide_eq_true c17
      clear c17
      replace H:=Option.bind_eq_some_iff.mp H
      obtain ⟨t121,A180,H⟩:=H
      replace H:(spec_l03Put.j2 kj2 l0 x5_2 (!t121) a1_0 a1_1 a1_2 a1_3) = some (r1,r2,r3,r4,r5,r6):=H
      have A18:=Aside0.mk A180
      clear A180
      have H':=Aside0.mk H
      clear H
      try go_wp2
      have n0_:=Aside0.mk (blk_drew BK116.out)
      have n1_:=Aside0.mk (blk_drew BK117.out)
      have n2_:=Aside0.mk (below_drew1 HB.out)
      clear BK116
      clear BK117
      clear HB
      have BK116:=n0_
      have BK117:=n1_
      have HB:=n2_
      clear n0_ n1_ n2_
      have p120:0≤(x5_2:Int):=of_decide_eq_true (by first|(with_reducible assumption)|assumption)
      have q120:x5_2 < (l0.length:Int):=of_decide_eq_true (by first|(with_reducible assumption)|assumption)
      obtain ⟨ad120,e120,hx120_0,hx120_1,hx120_2,hx120_3⟩:=at_T25 HR0.out x5_2 p120 q120
      have hw120_3:=hx120_3
      have hw120_2:=hx120_2
      have hw120_1:=hx120_1
      have hw120_0:=hx120_0
      cases e120
      replace hx120_0:=(HB.out.cell (World.block_lt_of_cell? w _ hx120_0)).trans hx120_0
      replace hx120_1:=(HB.out.cell (World.block_lt_of_cell? w _ hx120_1)).trans hx120_1
      replace hx120_2:=(HB.out.cell (World.block_lt_of_cell? w _ hx120_2)).trans hx120_2
      replace hx120_3:=(HB.out.cell (World.block_lt_of_cell? w _ hx120_3)).trans hx120_3
      replace p120:=eq_true p120
      replace q120:=eq_true q120
      refine start_ (n:=13) (S:=fun w'=>w'.cell? ⟨gb116,0,none⟩ = some (.int .i64 a1_0)∧w'.cell? ⟨gb116,1,none⟩ = some (.int .i64 a1_1)∧w'.cell? ⟨gb116,2,none⟩ = some (.int .i64 a1_2)∧w'.cell? ⟨gb116,3,none⟩ = some (.string a1_3)∧w'.cell? (ad120.add ((x5_2).toNat * 4)) = some (.int .i64 ((rd_T25 l0 x5_2).f0))∧w'.cell? ⟨(ad120.add ((x5_2).toNat * 4)).block,(ad120.add ((x5_2).toNat * 4)).off + 1,none⟩ = some (.int .i64 ((rd_T25 l0 x5_2).f1))∧w'.cell? ⟨(ad120.add ((x5_2).toNat * 4)).block,(ad120.add ((x5_2).toNat * 4)).off + 2,none⟩ = some (.int .i64 ((rd_T25 l0 x5_2).f2))∧w'.cell? ⟨(ad120.add ((x5_2).toNat * 4)).block,(ad120.add ((x5_2).toNat * 4)).off + 3,none⟩ = some (.string ((rd_T25 l0 x5_2).f3))) (ds:=[]) #[false,false,false,false,false,false,false,false,false,false,false,false,false] (by kernel_rfl) rfl rfl ⟨(blk_cell BK116.out 0).trans rfl,(blk_cell BK116.out 1).trans rfl,(blk_cell BK116.out 2).trans rfl,(blk_cell BK116.out 3).trans rfl,((HB.out.cell (World.block_lt_of_cell? w _ hw120_0)).trans hw120_0),((HB.out.cell (World.block_lt_of_cell? w _ hw120_1)).trans hw120_1),((HB.out.cell (World.block_lt_of_cell? w _ hw120_2)).trans hw120_2),((HB.out.cell (World.block_lt_of_cell? w _ hw120_3)).trans hw120_3)⟩ (fun hHeld=>?_);refine with_tabW spec_l03Put.tab4 spec_l03Put.bits4 (fun HT_ HW_=>?_)
      generalize wc.drew = w19 at BK116 BK117 HB hx120_0 hx120_1 hx120_2 hx120_3 hHeld ⊢
      refine pure_ (i:=0) (N:=some 21) (v:=?_) (a':=?_) #[true,false,false,false,false,false,false,false,false,false,false,false,false] rfl rfl (any_of HT_.out (by kernel_rfl)) (fun _ _ _ h=>h) (Or.inl ⟨by rfl,?_⟩) ?_ ?_
      rotate_left
      ·intro w'
       go_simp
       with_reducible rfl
      rotate_left
      ·simp only [Act.put,List.setIfInBounds_toArray,List.set_cons_zero,List.set_cons_succ,i64_w,i32_w]
       rfl
      refine pure_ (i:=1) (N:=some 22) (v:=?_) (a':=?_) #[true,true,false,false,false,false,false,false,false,false,false,false,false] rfl rfl (any_of HT_.out (by kernel_rfl)) (fun _ _ _ h=>h) (Or.inl ⟨by rfl,?_⟩) ?_ ?_
      rotate_left
      ·intro w'
       go_simp
       with_reducible rfl
      rotate_left
      ·simp only [Act.put,List.setIfInBounds_toArray,List.set_cons_zero,List.set_cons_succ,i64_w,i32_w]
       rfl
      refine pure_ (i:=2) (N:=some 23) (v:=?_) (a':=?_) #[true,true,true,false,false,false,false,false,false,false,false,false,false] rfl rfl (any_of HT_.out (by kernel_rfl)) (fun _ _ _ h=>h) (Or.inl ⟨by rfl,?_⟩) ?_ ?_
      rotate_left
      ·intro w'
       go_simp
       with_reducible rfl
      rotate_left
      ·simp only [Act.put,List.setIfInBounds_toArray,List.set_cons_zero,List.set_cons_succ,i64_w,i32_w]
       rfl
      refine pure_ (i:=3) (N:=some 24) (v:=?_) (a':=?_) #[true,true,true,true,false,false,false,false,false,false,false,false,false] rfl rfl (any_of HT_.out (by kernel_rfl)) (fun _ _ _ h=>h) (Or.inl ⟨by rfl,?_⟩) ?_ ?_
      rotate_left
      ·intro w'
       go_simp
       with_reducible rfl
      rotate_left
      ·simp only [Act.put,List.setIfInBounds_toArray,List.set_cons_zero,List.set_cons_succ,i64_w,i32_w]
       rfl
      refine pure_ (i:=4) (N:=some 25) (v:=?_) (a':=?_) #[true,true,true,true,true,false,false,false,false,false,false,false,false] rfl rfl (any_of HT_.out (by kernel_rfl)) (fun _ _ _ h=>h) (Or.inl ⟨by rfl,?_⟩) ?_ ?_
      rotate_left
      ·intro w'
       go_simp
       with_reducible rfl
      rotate_left
      ·simp only [Act.put,List.setIfInBounds_toArray,List.set_cons_zero,List.set_cons_succ,i64_w,i32_w]
       rfl
      refine pure_ (i:=6) (N:=some 27) (v:=?_) (a':=?_) #[true,true,true,true,true,false,true,false,false,false,false,false,false] rfl rfl (any_of HT_.out (by kernel_rfl)) (fun _ _ _ h=>h) (Or.inl ⟨by rfl,?_⟩) ?_ ?_
      rotate_left
      ·intro w'
       go_simp
       with_reducible rfl
      rotate_left
      ·simp only [Act.put,List.setIfInBounds_toArray,List.set_cons_zero,List.set_cons_succ,i64_w,i32_w]
       rfl
      refine pure_ (i:=7) (N:=some 28) (v:=?_) (a':=?_) #[true,true,true,true,true,false,true,true,false,false,false,false,false] rfl rfl (any_of HT_.out (by kernel_rfl)) (fun _ _ _ h=>h) (Or.inl ⟨by rfl,?_⟩) ?_ ?_
      rotate_left
      ·intro w'
       go_simp
       with_reducible rfl
      rotate_left
      ·simp only [Act.put,List.setIfInBounds_toArray,List.set_cons_zero,List.set_cons_succ,i64_w,i32_w]
       rfl
      refine pure_ (i:=8) (N:=some 29) (v:=?_) (a':=?_) #[true,true,true,true,true,false,true,true,true,false,false,false,false] rfl rfl (any_of HT_.out (by kernel_rfl)) (fun _ _ _ h=>h) (Or.inl ⟨by rfl,?_⟩) ?_ ?_
      rotate_left
      ·intro w'
       go_simp
       with_reducible rfl
      rotate_left
      ·simp only [Act.put,List.setIfInBounds_toArray,List.set_cons_zero,List.set_cons_succ,i64_w,i32_w]
       rfl
      refine take_ (i:=5) (N:=some 26) (v:=?_) (a':=?_) #[true,true,true,true,true,true,true,true,true,false,false,false,false] rfl rfl (take_ofW HT_.out HW_.out (by kernel_rfl)) (fun _ _ _ h=>h) (Or.inl ⟨by rfl,?_⟩) hHeld ?_ ?_
      rotate_left
      ·rintro w' ⟨s0,s1,s2,s3,s4,s5,s6,s7⟩
       go_simp
       with_reducible rfl
      rotate_left
      ·simp only [Act.put,List.setIfInBounds_toArray,List.set_cons_zero,List.set_cons_succ,i64_w,i32_w]
       rfl
      refine take_ (i:=9) (N:=some 30) (v:=?_) (a':=?_) #[true,true,true,true,true,true,true,true,true,true,false,false,false] rfl rfl (take_ofW HT_.out HW_.out (by kernel_rfl)) (fun _ _ _ h=>h) (Or.inl ⟨by rfl,?_⟩) hHeld ?_ ?_
      rotate_left
      ·rintro w' ⟨s0,s1,s2,s3,s4,s5,s6,s7⟩
       go_simp
       with_reducible rfl
      rotate_left
      ·simp only [Act.put,List.setIfInBounds_toArray,List.set_cons_zero,List.set_cons_succ,i64_w,i32_w]
       rfl
      refine one_ (i:=10) (N:=some 31) #[true,true,true,true,true,true,true,true,true,true,true,false,false] rfl rfl (one_of HT_.out (by kernel_rfl)) (by decide) (fun K hK=>?_)
      refine goes_ Try.func77 (by kernel_rfl) rfl #[.agg #[.int .i64 a1_0,.int .i64 a1_1,.int .i64 a1_2,.string a1_3],.agg #[.int .i64 ((rd_T25 l0 x5_2).f0),.int .i64 ((rd_T25 l0 x5_2).f1),.int .i64 ((rd_T25 l0 x5_2).f2),.string ((rd_T25 l0 x5_2).f3)]] (by rfl) rfl rfl (by (try simp only [List.map_toArray,List.map_cons,List.map_nil]);first|done|rfl|(simp only [List.length_drop,List.length_take];rfl)) ?_
      with_reducible refine (spec_l03Less.calls a1_0 a1_1 a1_2 a1_3 ((rd_T25 l0 x5_2).f0) ((rd_T25 l0 x5_2).f1) ((rd_T25 l0 x5_2).f2) ((rd_T25 l0 x5_2).f3) t121 _ A18.out).mono ?_
      rintro e w20 ⟨rfl,hb⟩
      refine ⟨_,rfl,?_⟩
      have n0_:=Aside0.mk (blk_below (g:=gb116) (o:=.cells #[.int .i64 a1_0,.int .i64 a1_1,.int .i64 a1_2,.string a1_3] 25 (0,0)) (by (with_reducible repeat (first|refine blk_drewN ?_ _|refine blk_drew ?_|refine blk_alloc ?_ _));exact BK116.out) hb)
      have n1_:=Aside0.mk (blk_below (g:=gb117) (o:=.cells #[.slice none 0 0,.int .i64 0,.int .i64 0,.int .i64 0,.string (⟨#[]⟩:ByteArray),.int .i64 0] 29 (0,0)) (by (with_reducible repeat (first|refine blk_drewN ?_ _|refine blk_drew ?_|refine blk_alloc ?_ _));exact BK117.out) hb)
      have n2_:=Aside0.mk (below_step (by repeat (first|(with_reducible first|exact HB.out|apply below_alloc|apply pw_below_drewN|apply below_drew1|refine below_set ?_ GE116.out|refine below_set ?_ GE117.out)|exact HB.out)) hb)
      clear BK116
      clear BK117
      clear HB
      have BK116:=n0_
      have BK117:=n1_
      have HB:=n2_
      clear n0_ n1_ n2_
      (try clear hb)
      (try clear hb2)
      (try clear hk)
      (try clear hi)
      refine hK.out _ _ ⟨(blk_cell BK116.out 0).trans rfl,(blk_cell BK116.out 1).trans rfl,(blk_cell BK116.out 2).trans rfl,(blk_cell BK116.out 3).trans rfl,((HB.out.cell (World.block_lt_of_cell? w _ hw120_0)).trans hw120_0),((HB.out.cell (World.block_lt_of_cell? w _ hw120_1)).trans hw120_1),((HB.out.cell (World.block_lt_of_cell? w _ hw120_2)).trans hw120_2),((HB.out.cell (World.block_lt_of_cell? w _ hw120_3)).trans hw120_3)⟩ (fun hHeld=>?_)
      clear hK K
      refine norm_ (a':=?_) ?_ ?_
      rotate_left
      ·show Act.put _ (some 31) _ = _
       simp only [Act.put,List.setIfInBounds_toArray,List.set_cons_zero,List.set_cons_succ,i64_w,i32_w]
       rfl
      refine pure_ (i:=11) (N:=some 32) (v:=?_) (a':=?_) #[true,true,true,true,true,true,true,true,true,true,true,true,false] rfl rfl (any_of HT_.out (by kernel_rfl)) (fun _ _ _ h=>h) (Or.inl ⟨by rfl,?_⟩) ?_ ?_
      rotate_left
      ·intro w'
       go_simp
       with_reducible rfl
      rotate_left
      ·simp only [Act.put,List.setIfInBounds_toArray,List.set_cons_zero,List.set_cons_succ,i64_w,i32_w]
       rfl
      refine pure_ (i:=12) (N:=some 33) (v:=?_) (a':=?_) #[true,true,true,true,true,true,true,true,true,true,true,true,true] rfl rfl (any_of HT_.out (by kernel_rfl)) (fun _ _ _ h=>h) (Or.inl ⟨by rfl,?_⟩) ?_ ?_
      rotate_left
      ·intro w'
       go_simp
       with_reducible rfl
      rotate_left
      ·simp only [Act.put,List.setIfInBounds_toArray,List.set_cons_zero,List.set_cons_succ,i64_w,i32_w]
       rfl
      refine done_ (done_of HT_.out (by kernel_rfl)) ?_
      try go_wp2
      go_meet
      case rel=>exact ⟨_,(!t121),(by first|rfl|(simp;done)|(simp [*];done)),H',⟨by have:=HJ2.out;first|omega|exact Nat.le_refl _⟩,⟨by (with_reducible repeat (first|refine blk_drewN ?_ _|refine blk_drew ?_|refine blk_alloc ?_ _));exact BK116.out⟩,⟨by (with_reducible repeat (first|refine blk_drewN ?_ _|refine blk_drew ?_|refine blk_alloc ?_ _));exact BK117.out⟩,⟨by repeat (first|(with_reducible first|exact HB.out|apply below_alloc|apply pw_below_drewN|apply below_drew1|refine below_set ?_ GE116.out|refine below_set ?_ GE117.out)|exact HB.out)⟩⟩
     ·rw [if_neg c17] at H
      exact absurd H (by simp)
    ·rw [if_neg c16] at H
     have c16b0:decide (x5_2 < (l0.length:Int)) = false:=decide_eq_false c16
     clear c16
     (first|rw [c16b0]|(simp only [i64_w,i32_w];rw [c16b0])|skip)
     have H':=Aside0.mk H
     clear H
     try go_wp2
     have n0_:=Aside0.mk (blk_drew BK116.out)
     have n1_:=Aside0.mk (blk_drew BK117.out)
     have n2_:=Aside0.mk (below_drew1 HB.out)
     clear BK116
     clear BK117
     clear HB
     have BK116:=n0_
     have BK117:=n1_
     have HB:=n2_
     clear n0_ n1_ n2_
     refine start_ (n:=13) (S:=fun w'=>True) (ds:=[]) #[false,false,false,false,false,false,false,false,false,false,false,false,false] (by kernel_rfl) rfl rfl trivial (fun hHeld=>?_);refine with_tabW spec_l03Put.tab4 spec_l03Put.bits4 (fun HT_ HW_=>?_)
     generalize wc.drew = w21 at BK116 BK117 HB hHeld ⊢
     refine pure_ (i:=0) (N:=some 21) (v:=?_) (a':=?_) #[true,false,false,false,false,false,false,false,false,false,false,false,false] rfl rfl (any_of HT_.out (by kernel_rfl)) (fun _ _ _ h=>h) (Or.inl ⟨by rfl,?_⟩) ?_ ?_
     rotate_left
     ·intro w'
      go_simp
      with_reducible rfl
     rotate_left
     ·simp only [Act.put,List.setIfInBounds_toArray,List.set_cons_zero,List.set_cons_succ,i64_w,i32_w]
      rfl
     refine pure_ (i:=1) (N:=some 22) (v:=?_) (a':=?_) #[true,true,false,false,false,false,false,false,false,false,false,false,false] rfl rfl (any_of HT_.out (by kernel_rfl)) (fun _ _ _ h=>h) (Or.inl ⟨by rfl,?_⟩) ?_ ?_
     rotate_left
     ·intro w'
      go_simp
      with_reducible rfl
     rotate_left
     ·simp only [Act.put,List.setIfInBounds_toArray,List.set_cons_zero,List.set_cons_succ,i64_w,i32_w]
      rfl
     refine pure_ (i:=2) (N:=some 23) (v:=?_) (a':=?_) #[true,true,true,false,false,false,false,false,false,false,false,false,false] rfl rfl (any_of HT_.out (by kernel_rfl)) (fun _ _ _ h=>h) (Or.inl ⟨by rfl,?_⟩) ?_ ?_
     rotate_left
     ·intro w'
      go_simp
      with_reducible rfl
     rotate_left
     ·simp only [Act.put,List.setIfInBounds_toArray,List.set_cons_zero,List.set_cons_succ,i64_w,i32_w]
      rfl
     refine pure_ (i:=3) (N:=some 24) (v:=?_) (a':=?_) #[true,true,true,true,false,false,false,false,false,false,false,false,false] rfl rfl (any_of HT_.out (by kernel_rfl)) (fun _ _ _ h=>h) (Or.inl ⟨by rfl,?_⟩) ?_ ?_
     rotate_left
     ·intro w'
      go_simp
      with_reducible rfl
     rotate_left
     ·simp only [Act.put,List.setIfInBounds_toArray,List.set_cons_zero,List.set_cons_succ,i64_w,i32_w]
      rfl
     refine pure_ (i:=4) (N:=some 25) (v:=?_) (a':=?_) #[true,true,true,true,true,false,false,false,false,false,false,false,false] rfl rfl (any_of HT_.out (by kernel_rfl)) (fun _ _ _ h=>h) (Or.inl ⟨by rfl,?_⟩) ?_ ?_
     rotate_left
     ·intro w'
      go_simp
      with_reducible rfl
     rotate_left
     ·simp only [Act.put,List.setIfInBounds_toArray,List.set_cons_zero,List.set_cons_succ,i64_w,i32_w]
      rfl
     refine pure_ (i:=5) (N:=some 26) (v:=undef) (a':=?_) #[true,true,true,true,true,true,false,false,false,false,false,false,false] rfl rfl (any_of HT_.out (by kernel_rfl)) (fun _ _ _ h=>h) (Or.inr ⟨by rfl,rfl⟩) ?_ ?_
     rotate_left
     ·simp only [Act.put,List.setIfInBounds_toArray,List.set_cons_zero,List.set_cons_succ,i64_w,i32_w]
      rfl
     refine pure_ (i:=6) (N:=some 27) (v:=undef) (a':=?_) #[true,true,true,true,true,true,true,false,false,false,false,false,false] rfl rfl (any_of HT_.out (by kernel_rfl)) (fun _ _ _ h=>h) (Or.inr ⟨by rfl,rfl⟩) ?_ ?_
     rotate_left
     ·simp only [Act.put,List.setIfInBounds_toArray,List.set_cons_zero,List.set_cons_succ,i64_w,i32_w]
      rfl
     refine pure_ (i:=7) (N:=some 28) (v:=undef) (a':=?_) #[true,true,true,true,true,true,true,true,false,false,false,false,false] rfl rfl (any_of HT_.out (by kernel_rfl)) (fun _ _ _ h=>h) (Or.inr ⟨by rfl,rfl⟩) ?_ ?_
     rotate_left
     ·simp only [Act.put,List.setIfInBounds_toArray,List.set_cons_zero,List.set_cons_succ,i64_w,i32_w]
      rfl
     refine pure_ (i:=8) (N:=some 29) (v:=undef) (a':=?_) #[true,true,true,true,true,true,true,true,true,false,false,false,false] rfl rfl (any_of HT_.out (by kernel_rfl)) (fun _ _ _ h=>h) (Or.inr ⟨by rfl,rfl⟩) ?_ ?_
     rotate_left
     ·simp only [Act.put,List.setIfInBounds_toArray,List.set_cons_zero,List.set_cons_succ,i64_w,i32_w]
      rfl
     refine pure_ (i:=9) (N:=some 30) (v:=undef) (a':=?_) #[true,true,true,true,true,true,true,true,true,true,false,false,false] rfl rfl (any_of HT_.out (by kernel_rfl)) (fun _ _ _ h=>h) (Or.inr ⟨by rfl,rfl⟩) ?_ ?_
     rotate_left
     ·simp only [Act.put,List.setIfInBounds_toArray,List.set_cons_zero,List.set_cons_succ,i64_w,i32_w]
      rfl
     refine pure_ (i:=10) (N:=some 31) (v:=undef) (a':=?_) #[true,true,true,true,true,true,true,true,true,true,true,false,false] rfl rfl (any_of HT_.out (by kernel_rfl)) (fun _ _ _ h=>h) (Or.inr ⟨by rfl,rfl⟩) ?_ ?_
     rotate_left
     ·simp only [Act.put,List.setIfInBounds_toArray,List.set_cons_zero,List.set_cons_succ,i64_w,i32_w]
      rfl
     refine pure_ (i:=11) (N:=some 32) (v:=undef) (a':=?_) #[true,true,true,true,true,true,true,true,true,true,true,true,false] rfl rfl (any_of HT_.out (by kernel_rfl)) (fun _ _ _ h=>h) (Or.inr ⟨by rfl,rfl⟩) ?_ ?_
     rotate_left
     ·simp only [Act.put,List.setIfInBounds_toArray,List.set_cons_zero,List.set_cons_succ,i64_w,i32_w]
      rfl
     refine pure_ (i:=12) (N:=some 33) (v:=?_) (a':=?_) #[true,true,true,true,true,true,true,true,true,true,true,true,true] rfl rfl (any_of HT_.out (by kernel_rfl)) (fun _ _ _ h=>h) (Or.inl ⟨by rfl,?_⟩) ?_ ?_
     rotate_left
     ·intro w'
      go_simp
      with_reducible rfl
     rotate_left
     ·simp only [Act.put,List.setIfInBounds_toArray,List.set_cons_zero,List.set_cons_succ,i64_w,i32_w]
      rfl
     refine done_ (done_of HT_.out (by kernel_rfl)) ?_
     try go_wp2
     go_meet
     case rel=>exact ⟨_,(false),(by first|rfl|(simp;done)|(simp [*];done)),H',⟨by have:=HJ2.out;first|omega|exact Nat.le_refl _⟩,⟨by (with_reducible repeat (first|refine blk_drewN ?_ _|refine blk_drew ?_|refine blk_alloc ?_ _));exact BK116.out⟩,⟨by (with_reducible repeat (first|refine blk_drewN ?_ _|refine blk_drew ?_|refine blk_alloc ?_ _));exact BK117.out⟩,⟨by repeat (first|(with_reducible first|exact HB.out|apply below_alloc|apply pw_below_drewN|apply below_drew1|refine below_set ?_ GE116.out|refine below_set ?_ GE117.out)|exact HB.out)⟩⟩
   case rest =>
    clear HC15
    try clear c1
    try clear p1
    try clear q1
    try clear hx1
    try clear p2
    try clear c6
    try clear c6b0
    try clear p6
    try clear c7
    try clear c7b0
    try clear c9
    try clear p11
    try clear q11
    try clear hx11
    try clear p12
    try clear q12
    try clear hx12
    try clear c16
    try clear c16b0
    try clear c17
    try clear c17b0
    try clear hx118_0
    try clear hx118_1
    try clear hx118_2
    try clear hx118_3
    try clear hx120_0
    try clear hx120_1
    try clear hx120_2
    try clear hx120_3
    try clear p1
    try clear p11
    try clear p118
    try clear p120
    try clear p2
    try clear p6
    try clear q1
    try clear q11
    try clear q118
    try clear q120
    obtain ⟨kq,x33_14,rfl,HA,HJ14,BK116,BK117,HB⟩:=hcut
    cases kq with
    | zero=>exact absurd HA.out (by simp [spec_l03Put.j2])
    | succ kj14 =>
     have H:=HA.out
     clear HA
     simp only [spec_l03Put.j2] at H
     by_cases c22:x33_14 = true
     ·subst c22
      have H1:((spec_l03Ill.f 7).bind fun bt122=>(some (bt122.1,bt122.2.1,bt122.2.2.1,bt122.2.2.2.1,bt122.2.2.2.2.1,bt122.2.2.2.2.2))) = some (r1,r2,r3,r4,r5,r6):=by rw [if_pos rfl] at H;exact H
      clear H
      have H:=H1
      clear H1
      replace H:=Option.bind_eq_some_iff.mp H
      obtain ⟨⟨t122,t125,t126,t127,t128,t129⟩,A230,H⟩:=H
      replace H:(some (t122,t125,t126,t127,t128,t129)) = some (r1,r2,r3,r4,r5,r6):=H
      have A23:=Aside0.mk A230
      clear A230
      simp only [Option.some.injEq,Prod.mk.injEq] at H
      obtain ⟨rfl,rfl,rfl,rfl,rfl,rfl⟩:=H
      go_wp2_with (first|((with_reducible refine gate_callee (f:=73) rfl ?_);refine goesL_ (some 34) rfl rfl Try.func73 (by kernel_rfl) rfl #[.int .i64 7] rfl (by (try simp only [List.map_toArray,List.map_cons,List.map_nil]);first|done|rfl|(simp only [List.length_drop,List.length_take];rfl)) ?_;(with_reducible refine (spec_l03Ill.calls 7 t122 t125 t126 t127 t128 t129 _ A23.out).mono ?_);rintro e w24 ⟨v123,rfl,ho0,hb⟩;refine ⟨_,rfl,?_⟩;have n0_:=Aside0.mk (Kd.R_lower (Kd.R_newB ho0 (g:=gb116) (o:=.cells #[.int .i64 a1_0,.int .i64 a1_1,.int .i64 a1_2,.string a1_3] 25 (0,0)) (by (with_reducible repeat (first|refine blk_drewN ?_ _|refine blk_drew ?_|refine blk_alloc ?_ _));exact BK116.out)) (below_size (by repeat (first|(with_reducible first|exact HB.out|apply below_alloc|apply pw_below_drewN|apply below_drew1|refine below_set ?_ GE116.out|refine below_set ?_ GE117.out)|exact HB.out))));have n1_:=Aside0.mk (blk_below (g:=gb116) (o:=.cells #[.int .i64 a1_0,.int .i64 a1_1,.int .i64 a1_2,.string a1_3] 25 (0,0)) (by (with_reducible repeat (first|refine blk_drewN ?_ _|refine blk_drew ?_|refine blk_alloc ?_ _));exact BK116.out) hb);have n2_:=Aside0.mk (blk_below (g:=gb117) (o:=.cells #[.slice none 0 0,.int .i64 0,.int .i64 0,.int .i64 0,.string (⟨#[]⟩:ByteArray),.int .i64 0] 29 (0,0)) (by (with_reducible repeat (first|refine blk_drewN ?_ _|refine blk_drew ?_|refine blk_alloc ?_ _));exact BK117.out) hb);have n3_:=Aside0.mk (below_step (by repeat (first|(with_reducible first|exact HB.out|apply below_alloc|apply pw_below_drewN|apply below_drew1|refine below_set ?_ GE116.out|refine below_set ?_ GE117.out)|exact HB.out)) hb);clear BK116;clear BK117;clear HB;have HO124:=n0_;have BK116:=n1_;have BK117:=n2_;have HB:=n3_;clear n0_ n1_ n2_ n3_;(try clear hb);(try clear hb2);(try clear hk);(try clear hi);(try clear ho0);obtain ⟨Ao25,co25,eo25⟩:=Kd.R_slice HO124.out;subst eo25;have hnb26:=NB117_116.out;have hnc26:=NB116_117.out;have hcz27_0:w24.cell? ⟨gb117,0,none⟩ = some (.slice none 0 0):=(blk_cell BK117.out 0).trans rfl;have hcz27_1:w24.cell? ⟨gb117,1,none⟩ = some (.int .i64 0):=(blk_cell BK117.out 1).trans rfl;have hcz27_2:w24.cell? ⟨gb117,2,none⟩ = some (.int .i64 0):=(blk_cell BK117.out 2).trans rfl;have hcz27_3:w24.cell? ⟨gb117,3,none⟩ = some (.int .i64 0):=(blk_cell BK117.out 3).trans rfl;have hcz27_4:w24.cell? ⟨gb117,4,none⟩ = some (.string (⟨#[]⟩:ByteArray)):=(blk_cell BK117.out 4).trans rfl;have hcz27_5:w24.cell? ⟨gb117,5,none⟩ = some (.int .i64 0):=(blk_cell BK117.out 5).trans rfl;have hfz27_0:=blk_frozen BK117.out 0;have hfz27_1:=blk_frozen BK117.out 1;have hfz27_2:=blk_frozen BK117.out 2;have hfz27_3:=blk_frozen BK117.out 3;have hfz27_4:=blk_frozen BK117.out 4;have hfz27_5:=blk_frozen BK117.out 5))
      refine bodyPost_ret (results_cell_row rfl _ _ gb117 29 #[.slice Ao25 t122.length co25,.int .i64 t125,.int .i64 t126,.int .i64 t127,.string t128,.int .i64 t129] (0,0) _ rfl (by (with_reducible repeat (first|refine blk_drewN ?_ _|refine blk_drew ?_|refine blk_alloc ?_ _));refine blk_put (cs:=#[.slice Ao25 t122.length co25,.int .i64 t125,.int .i64 t126,.int .i64 t127,.string t128,.int .i64 0]) ?_ 5 _ rfl;(with_reducible repeat (first|refine blk_drewN ?_ _|refine blk_drew ?_|refine blk_alloc ?_ _));refine blk_put (cs:=#[.slice Ao25 t122.length co25,.int .i64 t125,.int .i64 t126,.int .i64 t127,.string (⟨#[]⟩:ByteArray),.int .i64 0]) ?_ 4 _ rfl;(with_reducible repeat (first|refine blk_drewN ?_ _|refine blk_drew ?_|refine blk_alloc ?_ _));refine blk_put (cs:=#[.slice Ao25 t122.length co25,.int .i64 t125,.int .i64 t126,.int .i64 0,.string (⟨#[]⟩:ByteArray),.int .i64 0]) ?_ 3 _ rfl;(with_reducible repeat (first|refine blk_drewN ?_ _|refine blk_drew ?_|refine blk_alloc ?_ _));refine blk_put (cs:=#[.slice Ao25 t122.length co25,.int .i64 t125,.int .i64 0,.int .i64 0,.string (⟨#[]⟩:ByteArray),.int .i64 0]) ?_ 2 _ rfl;(with_reducible repeat (first|refine blk_drewN ?_ _|refine blk_drew ?_|refine blk_alloc ?_ _));refine blk_put (cs:=#[.slice Ao25 t122.length co25,.int .i64 0,.int .i64 0,.int .i64 0,.string (⟨#[]⟩:ByteArray),.int .i64 0]) ?_ 1 _ rfl;(with_reducible repeat (first|refine blk_drewN ?_ _|refine blk_drew ?_|refine blk_alloc ?_ _));refine blk_put (cs:=#[.slice none 0 0,.int .i64 0,.int .i64 0,.int .i64 0,.string (⟨#[]⟩:ByteArray),.int .i64 0]) ?_ 0 _ rfl;(with_reducible repeat (first|refine blk_drewN ?_ _|refine blk_drew ?_|refine blk_alloc ?_ _));exact BK117.out) Try.underlying29 rfl (by kernel_rfl)) rfl ?_
      exact ⟨_,by first|rfl|(simp [errW_none,errW_some] <;> rfl)|(simp [*,errW_none,errW_some] <;> rfl),by (with_reducible repeat (first|apply Kd.R_alloc|apply Kd.R_drewN|apply Kd.R_drew));exact Kd.R_mono (Kd.R_far (p:=⟨gb117,5,none⟩) (Kd.R_far (p:=⟨gb117,4,none⟩) (Kd.R_far (p:=⟨gb117,3,none⟩) (Kd.R_far (p:=⟨gb117,2,none⟩) (Kd.R_far (p:=⟨gb117,1,none⟩) (Kd.R_far (p:=⟨gb117,0,none⟩) (Kd.R_types HO124.out BK117.out (by decide)) (fun _ hk=>hk.2) (.slice Ao25 t122.length co25)) (fun _ hk=>hk.2) (.int .i64 t125)) (fun _ hk=>hk.2) (.int .i64 t126)) (fun _ hk=>hk.2) (.int .i64 t127)) (fun _ hk=>hk.2) (.string t128)) (fun _ hk=>hk.2) (.int .i64 t129)) (fun _ hk=>trivial),by repeat (first|(with_reducible first|exact HB.out|apply below_alloc|apply pw_below_drewN|apply below_drew1|refine below_set ?_ GE116.out|refine below_set ?_ GE117.out)|exact HB.out)⟩
     ·replace c22:=Bool.eq_false_iff.mpr c22
      subst c22
      have H1:(if (l0.length:Int) ≥ 200 then ((spec_l03Ill.f 9).bind fun bt130=>(some (bt130.1,bt130.2.1,bt130.2.2.1,bt130.2.2.2.1,bt130.2.2.2.2.1,bt130.2.2.2.2.2))) else ((some (([]:List (S25)):List (S25))).bind fun y138=>(if 0≤x5_2 then (if x5_2≤(l0.length:Int) then ((some (l0.take (x5_2:Int).toNat:List (S25))).bind fun y141=>(if y138.length + y141.length < 3518437208883 then ((some (y138 ++ y141:List (S25))).bind fun y145=>(if y145.length < 3518437208883 then ((some (y145 ++ [(⟨a1_0,a1_1,a1_2,a1_3⟩:S25)]:List (S25))).bind fun y148=>((some (l0.drop (x5_2:Int).toNat:List (S25))).bind fun y151=>(if y148.length + y151.length < 3518437208883 then (some ((y148 ++ y151),0,0,0,(⟨#[]⟩:ByteArray),0)) else (none)))) else (none))) else (none))) else (none)) else (none)))) = some (r1,r2,r3,r4,r5,r6):=by rw [if_neg (show ¬ (false = true) by decide)] at H;exact H
      clear H
      have H:=H1
      clear H1
      by_cases c28:(l0.length:Int) ≥ 200
      ·rw [if_pos c28] at H
       have c28b0:decide (200≤(l0.length:Int)) = true:=decide_eq_true c28
       have c28b1:decide (200≤l0.length) = true:=decide_eq_true (by omega)
       clear c28
       replace H:=Option.bind_eq_some_iff.mp H
       obtain ⟨⟨t130,t133,t134,t135,t136,t137⟩,A290,H⟩:=H
       replace H:(some (t130,t133,t134,t135,t136,t137)) = some (r1,r2,r3,r4,r5,r6):=H
       have A29:=Aside0.mk A290
       clear A290
       simp only [Option.some.injEq,Prod.mk.injEq] at H
       obtain ⟨rfl,rfl,rfl,rfl,rfl,rfl⟩:=H
       go_wp2_with (first|((with_reducible refine gate_callee (f:=73) rfl ?_);refine goesL_ (some 38) rfl rfl Try.func73 (by kernel_rfl) rfl #[.int .i64 9] rfl (by (try simp only [List.map_toArray,List.map_cons,List.map_nil]);first|done|rfl|(simp only [List.length_drop,List.length_take];rfl)) ?_;(with_reducible refine (spec_l03Ill.calls 9 t130 t133 t134 t135 t136 t137 _ A29.out).mono ?_);rintro e w30 ⟨v131,rfl,ho0,hb⟩;refine ⟨_,rfl,?_⟩;have n0_:=Aside0.mk (Kd.R_lower (Kd.R_newB ho0 (g:=gb116) (o:=.cells #[.int .i64 a1_0,.int .i64 a1_1,.int .i64 a1_2,.string a1_3] 25 (0,0)) (by (with_reducible repeat (first|refine blk_drewN ?_ _|refine blk_drew ?_|refine blk_alloc ?_ _));exact BK116.out)) (below_size (by repeat (first|(with_reducible first|exact HB.out|apply below_alloc|apply pw_below_drewN|apply below_drew1|refine below_set ?_ GE116.out|refine below_set ?_ GE117.out)|exact HB.out))));have n1_:=Aside0.mk (blk_below (g:=gb116) (o:=.cells #[.int .i64 a1_0,.int .i64 a1_1,.int .i64 a1_2,.string a1_3] 25 (0,0)) (by (with_reducible repeat (first|refine blk_drewN ?_ _|refine blk_drew ?_|refine blk_alloc ?_ _));exact BK116.out) hb);have n2_:=Aside0.mk (blk_below (g:=gb117) (o:=.cells #[.slice none 0 0,.int .i64 0,.int .i64 0,.int .i64 0,.string (⟨#[]⟩:ByteArray),.int .i64 0] 29 (0,0)) (by (with_reducible repeat (first|refine blk_drewN ?_ _|refine blk_drew ?_|refine blk_alloc ?_ _));exact BK117.out) hb);have n3_:=Aside0.mk (below_step (by repeat (first|(with_reducible first|exact HB.out|apply below_alloc|apply pw_below_drewN|apply below_drew1|refine below_set ?_ GE116.out|refine below_set ?_ GE117.out)|exact HB.out)) hb);clear BK116;clear BK117;clear HB;have HO132:=n0_;have BK116:=n1_;have BK117:=n2_;have HB:=n3_;clear n0_ n1_ n2_ n3_;(try clear hb);(try clear hb2);(try clear hk);(try clear hi);(try clear ho0);obtain ⟨Ao31,co31,eo31⟩:=Kd.R_slice HO132.out;subst eo31;have hnb32:=NB117_116.out;have hnc32:=NB116_117.out;have hcz33_0:w30.cell? ⟨gb117,0,none⟩ = some (.slice none 0 0):=(blk_cell BK117.out 0).trans rfl;have hcz33_1:w30.cell? ⟨gb117,1,none⟩ = some (.int .i64 0):=(blk_cell BK117.out 1).trans rfl;have hcz33_2:w30.cell? ⟨gb117,2,none⟩ = some (.int .i64 0):=(blk_cell BK117.out 2).trans rfl;have hcz33_3:w30.cell? ⟨gb117,3,none⟩ = some (.int .i64 0):=(blk_cell BK117.out 3).trans rfl;have hcz33_4:w30.cell? ⟨gb117,4,none⟩ = some (.string (⟨#[]⟩:ByteArray)):=(blk_cell BK117.out 4).trans rfl;have hcz33_5:w30.cell? ⟨gb117,5,none⟩ = some (.int .i64 0):=(blk_cell BK117.out 5).trans rfl;have hfz33_0:=blk_frozen BK117.out 0;have hfz33_1:=blk_frozen BK117.out 1;have hfz33_2:=blk_frozen BK117.out 2;have hfz33_3:=blk_frozen BK117.out 3;have hfz33_4:=blk_frozen BK117.out 4;have hfz33_5:=blk_frozen BK117.out 5))
       refine bodyPost_ret (results_cell_row rfl _ _ gb117 29 #[.slice Ao31 t130.length co31,.int .i64 t133,.int .i64 t134,.int .i64 t135,.string t136,.int .i64 t137] (0,0) _ rfl (by (with_reducible repeat (first|refine blk_drewN ?_ _|refine blk_drew ?_|refine blk_alloc ?_ _));refine blk_put (cs:=#[.slice Ao31 t130.length co31,.int .i64 t133,.int .i64 t134,.int .i64 t135,.string t136,.int .i64 0]) ?_ 5 _ rfl;(with_reducible repeat (first|refine blk_drewN ?_ _|refine blk_drew ?_|refine blk_alloc ?_ _));refine blk_put (cs:=#[.slice Ao31 t130.length co31,.int .i64 t133,.int .i64 t134,.int .i64 t135,.string (⟨#[]⟩:ByteArray),.int .i64 0]) ?_ 4 _ rfl;(with_reducible repeat (first|refine blk_drewN ?_ _|refine blk_drew ?_|refine blk_alloc ?_ _));refine blk_put (cs:=#[.slice Ao31 t130.length co31,.int .i64 t133,.int .i64 t134,.int .i64 0,.string (⟨#[]⟩:ByteArray),.int .i64 0]) ?_ 3 _ rfl;(with_reducible repeat (first|refine blk_drewN ?_ _|refine blk_drew ?_|refine blk_alloc ?_ _));refine blk_put (cs:=#[.slice Ao31 t130.length co31,.int .i64 t133,.int .i64 0,.int .i64 0,.string (⟨#[]⟩:ByteArray),.int .i64 0]) ?_ 2 _ rfl;(with_reducible repeat (first|refine blk_drewN ?_ _|refine blk_drew ?_|refine blk_alloc ?_ _));refine blk_put (cs:=#[.slice Ao31 t130.length co31,.int .i64 0,.int .i64 0,.int .i64 0,.string (⟨#[]⟩:ByteArray),.int .i64 0]) ?_ 1 _ rfl;(with_reducible repeat (first|refine blk_drewN ?_ _|refine blk_drew ?_|refine blk_alloc ?_ _));refine blk_put (cs:=#[.slice none 0 0,.int .i64 0,.int .i64 0,.int .i64 0,.string (⟨#[]⟩:ByteArray),.int .i64 0]) ?_ 0 _ rfl;(with_reducible repeat (first|refine blk_drewN ?_ _|refine blk_drew ?_|refine blk_alloc ?_ _));exact BK117.out) Try.underlying29 rfl (by kernel_rfl)) rfl ?_
       exact ⟨_,by first|rfl|(simp [errW_none,errW_some] <;> rfl)|(simp [*,errW_none,errW_some] <;> rfl),by (with_reducible repeat (first|apply Kd.R_alloc|apply Kd.R_drewN|apply Kd.R_drew));exact Kd.R_mono (Kd.R_far (p:=⟨gb117,5,none⟩) (Kd.R_far (p:=⟨gb117,4,none⟩) (Kd.R_far (p:=⟨gb117,3,none⟩) (Kd.R_far (p:=⟨gb117,2,none⟩) (Kd.R_far (p:=⟨gb117,1,none⟩) (Kd.R_far (p:=⟨gb117,0,none⟩) (Kd.R_types HO132.out BK117.out (by decide)) (fun _ hk=>hk.2) (.slice Ao31 t130.length co31)) (fun _ hk=>hk.2) (.int .i64 t133)) (fun _ hk=>hk.2) (.int .i64 t134)) (fun _ hk=>hk.2) (.int .i64 t135)) (fun _ hk=>hk.2) (.string t136)) (fun _ hk=>hk.2) (.int .i64 t137)) (fun _ hk=>trivial),by repeat (first|(with_reducible first|exact HB.out|apply below_alloc|apply pw_below_drewN|apply below_drew1|refine below_set ?_ GE116.out|refine below_set ?_ GE117.out)|exact HB.out)⟩
      ·rw [if_neg c28] at H
       have c28b0:decide (200≤(l0.length:Int)) = false:=decide_eq_false c28
       have c28b1:decide (200≤l0.length) = false:=decide_eq_false (by omega)
       clear c28
       obtain ⟨y138,hy138⟩:∃ y_:List (S25),y_ = (([]:List (S25))):=⟨_,rfl⟩
       replace H:(if 0≤x5_2 then (if x5_2≤(l0.length:Int) then ((some (l0.take (x5_2:Int).toNat:List (S25))).bind fun y141=>(if y138.length + y141.length < 3518437208883 then ((some (y138 ++ y141:List (S25))).bind fun y145=>(if y145.length < 3518437208883 then ((some (y145 ++ [(⟨a1_0,a1_1,a1_2,a1_3⟩:S25)]:List (S25))).bind fun y148=>((some (l0.drop (x5_2:Int).toNat:List (S25))).bind fun y151=>(if y148.length + y151.length < 3518437208883 then (some ((y148 ++ y151),0,0,0,(⟨#[]⟩:ByteArray),0)) else (none)))) else (none))) else (none))) else (none)) else (none)) = some (r1,r2,r3,r4,r5,r6):=by first|(rw [hy138];with_reducible exact H)|(have H2_:=(Option.bind_some _ _).symm.trans H;rw [hy138];with_reducible exact H2_)|(have H2_:=(Option.bind_some _ _).symm.trans H;with_reducible exact H2_)|with_reducible exact H|(rw [hy138];exact H)|exact H
       have Ny138:=Aside0.mk hy138
       clear hy138
       by_cases c34:0≤x5_2
       ·rw [if_pos c34] at H
        have c34b0:=eq_true c34
        have c34b1:decide (0≤x5_2) = true:=decide_eq_true c34
        clear c34
        by_cases c35:x5_2≤(l0.length:Int)
        ·rw [if_pos c35] at H
         have c35b0:=eq_true c35
         have c35b1:decide (x5_2≤(l0.length:Int)) = true:=decide_eq_true c35
         clear c35
         obtain ⟨y141,hy141⟩:∃ y_:List (S25),y_ = (l0.take (x5_2:Int).toNat):=⟨_,rfl⟩
         replace H:(if y138.length + y141.length < 3518437208883 then ((some (y138 ++ y141:List (S25))).bind fun y145=>(if y145.length < 3518437208883 then ((some (y145 ++ [(⟨a1_0,a1_1,a1_2,a1_3⟩:S25)]:List (S25))).bind fun y148=>((some (l0.drop (x5_2:Int).toNat:List (S25))).bind fun y151=>(if y148.length + y151.length < 3518437208883 then (some ((y148 ++ y151),0,0,0,(⟨#[]⟩:ByteArray),0)) else (none)))) else (none))) else (none)) = some (r1,r2,r3,r4,r5,r6):=by first|(rw [hy141];with_reducible exact H)|(have H2_:=(Option.bind_some _ _).symm.trans H;rw [hy141];with_reducible exact H2_)|(have H2_:=(Option.bind_some _ _).symm.trans H;with_reducible exact H2_)|with_reducible exact H|(rw [hy141];exact H)|exact H
         have Ny141:=Aside0.mk hy141
         clear hy141
         by_cases c36:y138.length + y141.length < 3518437208883
         ·rw [if_pos c36] at H
          have LMc36:=Aside0.mk c36
          clear c36
          obtain ⟨y145,hy145⟩:∃ y_:List (S25),y_ = (y138 ++ y141):=⟨_,rfl⟩
          replace H:(if y145.length < 3518437208883 then ((some (y145 ++ [(⟨a1_0,a1_1,a1_2,a1_3⟩:S25)]:List (S25))).bind fun y148=>((some (l0.drop (x5_2:Int).toNat:List (S25))).bind fun y151=>(if y148.length + y151.length < 3518437208883 then (some ((y148 ++ y151),0,0,0,(⟨#[]⟩:ByteArray),0)) else (none)))) else (none)) = some (r1,r2,r3,r4,r5,r6):=by first|(rw [hy145];with_reducible exact H)|(have H2_:=(Option.bind_some _ _).symm.trans H;rw [hy145];with_reducible exact H2_)|(have H2_:=(Option.bind_some _ _).symm.trans H;with_reducible exact H2_)|with_reducible exact H|(rw [hy145];exact H)|exact H
          have Ny145:=Aside0.mk hy145
          clear hy145
          by_cases c37:y145.length < 3518437208883
          ·rw [if_pos c37] at H
           have LMc37:=Aside0.mk c37
           clear c37
           obtain ⟨y148,hy148⟩:∃ y_:List (S25),y_ = (y145 ++ [(⟨a1_0,a1_1,a1_2,a1_3⟩:S25)]):=⟨_,rfl⟩
           replace H:((some (l0.drop (x5_2:Int).toNat:List (S25))).bind fun y151=>(if y148.length + y151.length < 3518437208883 then (some ((y148 ++ y151),0,0,0,(⟨#[]⟩:ByteArray),0)) else (none))) = some (r1,r2,r3,r4,r5,r6):=by first|(rw [hy148];with_reducible exact H)|(have H2_:=(Option.bind_some _ _).symm.trans H;rw [hy148];with_reducible exact H2_)|(have H2_:=(Option.bind_some _ _).symm.trans H;with_reducible exact H2_)|with_reducible exact H|(rw [hy148];exact H)|exact H
           have Ny148:=Aside0.mk hy148
           clear hy148
           have c38b0:=eq_true (of_decide_eq_true (by first|(with_reducible assumption)|assumption):0≤x5_2)
           have c39b0:=eq_true (of_decide_eq_true (by first|(with_reducible assumption)|assumption):x5_2≤(l0.length:Int))
           obtain ⟨y151,hy151⟩:∃ y_:List (S25),y_ = (l0.drop (x5_2:Int).toNat):=⟨_,rfl⟩
           replace H:(if y148.length + y151.length < 3518437208883 then (some ((y148 ++ y151),0,0,0,(⟨#[]⟩:ByteArray),0)) else (none)) = some (r1,r2,r3,r4,r5,r6):=by first|(rw [hy151];with_reducible exact H)|(have H2_:=(Option.bind_some _ _).symm.trans H;rw [hy151];with_reducible exact H2_)|(have H2_:=(Option.bind_some _ _).symm.trans H;with_reducible exact H2_)|with_reducible exact H|(rw [hy151];exact H)|exact H
           have Ny151:=Aside0.mk hy151
           clear hy151
           by_cases c40:y148.length + y151.length < 3518437208883
           ·rw [if_pos c40] at H
            have LMc40:=Aside0.mk c40
            clear c40
            obtain ⟨y155,hy155⟩:∃ y_:List (S25),y_ = (y148 ++ y151):=⟨_,rfl⟩
            replace H:(some (y155,0,0,0,(⟨#[]⟩:ByteArray),0)) = some (r1,r2,r3,r4,r5,r6):=by first|(rw [hy155];with_reducible exact H)|(have H2_:=(Option.bind_some _ _).symm.trans H;rw [hy155];with_reducible exact H2_)|(have H2_:=(Option.bind_some _ _).symm.trans H;with_reducible exact H2_)|with_reducible exact H|(rw [hy155];exact H)|exact H
            have Ny155:=Aside0.mk hy155
            clear hy155
            simp only [Option.some.injEq,Prod.mk.injEq] at H
            obtain ⟨rfl,rfl,rfl,rfl,rfl,rfl⟩:=H
            go_wp2_with (first|((with_reducible refine gate_dst (N:=39) rfl ?_);refine Kd.R_lit k25 _ 25 ?hg (N:=39) ?hd (xs:=([]:List (S25))) (inner:=[]) (ok:=fun _=>True) (okp:=fun _=>True) ?hr ?hp (fun _ hk=>hk) trivial (Below.refl _ _) (Nat.le_refl _) (by simp) ?_;(case hd=>rfl);(case hg=>rfl);(case hr=>first|(go_simp;done)|(go_simp;rfl));(case hp=>exact (Reps.none _ _));intro v139 w41 ho42 hb hg_ hnew_;clear hg_ hnew_;(first|rw [← Ny138.out] at ho42|(simp only [Int.reduceToNat] at ho42;rw [← Ny138.out] at ho42));have n0_:=Aside0.mk (Kd.R_lower (Kd.R_newB ho42 (g:=gb116) (o:=.cells #[.int .i64 a1_0,.int .i64 a1_1,.int .i64 a1_2,.string a1_3] 25 (0,0)) (by (with_reducible repeat (first|refine blk_drewN ?_ _|refine blk_drew ?_|refine blk_alloc ?_ _));exact BK116.out)) (below_size (by repeat (first|(with_reducible first|exact HB.out|apply below_alloc|apply pw_below_drewN|apply below_drew1|refine below_set ?_ GE116.out|refine below_set ?_ GE117.out)|exact HB.out))));have n1_:=Aside0.mk (blk_below (g:=gb116) (o:=.cells #[.int .i64 a1_0,.int .i64 a1_1,.int .i64 a1_2,.string a1_3] 25 (0,0)) (by (with_reducible repeat (first|refine blk_drewN ?_ _|refine blk_drew ?_|refine blk_alloc ?_ _));exact BK116.out) hb);have n2_:=Aside0.mk (blk_below (g:=gb117) (o:=.cells #[.slice none 0 0,.int .i64 0,.int .i64 0,.int .i64 0,.string (⟨#[]⟩:ByteArray),.int .i64 0] 29 (0,0)) (by (with_reducible repeat (first|refine blk_drewN ?_ _|refine blk_drew ?_|refine blk_alloc ?_ _));exact BK117.out) hb);have n3_:=Aside0.mk (below_step (by repeat (first|(with_reducible first|exact HB.out|apply below_alloc|apply pw_below_drewN|apply below_drew1|refine below_set ?_ GE116.out|refine below_set ?_ GE117.out)|exact HB.out)) hb);clear BK116;clear BK117;clear HB;have HO140:=n0_;have BK116:=n1_;have BK117:=n2_;have HB:=n3_;clear n0_ n1_ n2_ n3_;clear hb ho42;have q43:(x5_2:Int)≤((l0.length:Int):Int):=of_decide_eq_true (by first|(with_reducible assumption)|assumption);obtain ⟨i043,hi043,_,hsz43,_⟩:=info_parts info25;have hroom43:l0.length≤c0:=HC0.out;have hC43:Kd.C k25 _ A0 l0.length l0:=HR0.out;have hcut43:=cut_to (P:=Try.prog) 23 25 .i64 Try.underlying23 hi043 A0 l0.length c0 x5_2 (of_decide_eq_true (by first|(with_reducible assumption)|assumption)) q43 hroom43;have hr43:=Kd.C_take (m:=(x5_2:Int).toNat) hC43 (by omega);have hy43:y141.length = (x5_2:Int).toNat:=(by rw [Ny141.out,List.length_take];omega);rw [← Ny141.out] at hr43;rw [← hy43] at hcut43;have HR144:=Aside0.mk hr43;have HC144:=Aside0.mk (show y141.length≤c0 from by omega);clear hr43 hC43 hroom43 hi043 hsz43;have KY43:=Aside0.mk hy43;clear hy43;replace q43:=eq_true q43)|((with_reducible refine gate_builtin (b:=.append) (xs:=#[.tmp 39,.tmp 42]) rfl ?_);at_builtin;refine Kd.R_append_rows k25 (w0:=w) w.heap.size rfl (.tmp 39) (.tmp 42) 23 25 (.agg #[(.int .i64 0),(.int .i64 0),(.int .i64 0),(.string ⟨#[]⟩)]) 40 rfl Try.underlying23 info25 rfl (by decide) (by omega) v139 y138 y141 _ _ _ (fun k_=>k_≠gb116) (fun _=>False) rfl rfl ?aO ?aR (fun _ _ h=>h) (fun _ h=>h.elim) ?aF ?aB ?aS ?aL ?_;(case aR=>repeat (first|exact (Kd.C_below HR144.out HB.out)|(with_reducible refine Kd.C_alloc ?_ _)|(with_reducible refine Kd.C_drewN ?_ _)|(with_reducible refine Kd.C_drew ?_)));(case aB=>exact (by repeat (first|(with_reducible first|exact HB.out|apply below_alloc|apply pw_below_drewN|apply below_drew1|refine below_set ?_ GE116.out|refine below_set ?_ GE117.out)|exact HB.out)));(case aF=>exact (fun k_ hk=>Kd.freshB (g:=gb116) (o:=.cells #[.int .i64 a1_0,.int .i64 a1_1,.int .i64 a1_2,.string a1_3] 25 (0,0)) (by (with_reducible repeat (first|refine blk_drewN ?_ _|refine blk_drew ?_|refine blk_alloc ?_ _));exact BK116.out) k_ hk));(case aO=>exact (by (with_reducible repeat (first|apply Kd.R_alloc|apply Kd.R_drewN|apply Kd.R_drew));exact Kd.R_mono HO140.out (fun _ hk=>hk.2)));(case aS=>exact (below_size (by repeat (first|(with_reducible first|exact HB.out|apply below_alloc|apply pw_below_drewN|apply below_drew1|refine below_set ?_ GE116.out|refine below_set ?_ GE117.out)|exact HB.out))));(case aL=>have:=LMc36.out;omega);intro v146 w44 ho hb hg hat;rw [← Ny145.out] at ho;have n0_:=Aside0.mk (blk_grown (g:=gb116) (o:=.cells #[.int .i64 a1_0,.int .i64 a1_1,.int .i64 a1_2,.string a1_3] 25 (0,0)) (by (with_reducible repeat (first|refine blk_drewN ?_ _|refine blk_drew ?_|refine blk_alloc ?_ _));exact BK116.out) hg (Kd.R_away HO140.out (fun _ hk=>hk.2)));have n1_:=Aside0.mk (blk_grown (g:=gb117) (o:=.cells #[.slice none 0 0,.int .i64 0,.int .i64 0,.int .i64 0,.string (⟨#[]⟩:ByteArray),.int .i64 0] 29 (0,0)) (by (with_reducible repeat (first|refine blk_drewN ?_ _|refine blk_drew ?_|refine blk_alloc ?_ _));exact BK117.out) hg (Kd.R_ne HO140.out BK117.out (by decide)));have n2_:=Aside0.mk (hb);have n3_:=Aside0.mk (ho);clear BK116;clear BK117;clear HB;clear HO140;have BK116:=n0_;have BK117:=n1_;have HB:=n2_;have HO147:=n3_;clear n0_ n1_ n2_ n3_;clear ho hb hg hat;have hnb45:=NB116_117.out;have hnc45:=NB117_116.out;have hcz46_0:w44.cell? ⟨gb116,0,none⟩ = some (.int .i64 a1_0):=(blk_cell BK116.out 0).trans rfl;have hcz46_1:w44.cell? ⟨gb116,1,none⟩ = some (.int .i64 a1_1):=(blk_cell BK116.out 1).trans rfl;have hcz46_2:w44.cell? ⟨gb116,2,none⟩ = some (.int .i64 a1_2):=(blk_cell BK116.out 2).trans rfl;have hcz46_3:w44.cell? ⟨gb116,3,none⟩ = some (.string a1_3):=(blk_cell BK116.out 3).trans rfl;have hfz46_0:=blk_frozen BK116.out 0;have hfz46_1:=blk_frozen BK116.out 1;have hfz46_2:=blk_frozen BK116.out 2;have hfz46_3:=blk_frozen BK116.out 3)|((with_reducible refine gate_builtin (b:=.append) (xs:=#[.tmp 44,.tmp 46]) rfl ?_);at_builtin;refine Kd.R_append k25 (w0:=w) w.heap.size rfl (.tmp 44) (.tmp 46) 23 25 (.agg #[(.int .i64 0),(.int .i64 0),(.int .i64 0),(.string ⟨#[]⟩)]) 40 rfl Try.underlying23 info25 rfl (by decide) (by omega) v146 y145 (⟨a1_0,a1_1,a1_2,a1_3⟩:S25) [.int .i64 a1_0,.int .i64 a1_1,.int .i64 a1_2,.string a1_3] (fun k_=>k_≠gb116) (fun _=>False) rfl rfl ?aP (fun _ hk=>hk.elim) ?aF ?aO ?aB ?aS ?aL ?_;(case aP=>exact k25_mkM _ _ _ (⟨a1_0,a1_1,a1_2,a1_3⟩:S25));(case aB=>exact (by repeat (first|(with_reducible first|exact HB.out|apply below_alloc|apply pw_below_drewN|apply below_drew1|refine below_set ?_ GE116.out|refine below_set ?_ GE117.out)|exact HB.out)));(case aF=>exact (fun k_ hk=>Kd.freshB (g:=gb116) (o:=.cells #[.int .i64 a1_0,.int .i64 a1_1,.int .i64 a1_2,.string a1_3] 25 (0,0)) (by (with_reducible repeat (first|refine blk_drewN ?_ _|refine blk_drew ?_|refine blk_alloc ?_ _));exact BK116.out) k_ hk));(case aO=>exact (by (with_reducible repeat (first|apply Kd.R_alloc|apply Kd.R_drewN|apply Kd.R_drew));exact HO147.out));(case aS=>exact (below_size (by repeat (first|(with_reducible first|exact HB.out|apply below_alloc|apply pw_below_drewN|apply below_drew1|refine below_set ?_ GE116.out|refine below_set ?_ GE117.out)|exact HB.out))));(case aL=>have:=LMc37.out;omega);intro v149 w47 ho hb hg hat;rw [← Ny148.out] at ho;have n0_:=Aside0.mk (blk_grown (g:=gb116) (o:=.cells #[.int .i64 a1_0,.int .i64 a1_1,.int .i64 a1_2,.string a1_3] 25 (0,0)) (by (with_reducible repeat (first|refine blk_drewN ?_ _|refine blk_drew ?_|refine blk_alloc ?_ _));exact BK116.out) hg (Kd.R_away HO147.out (fun _ hk=>hk)));have n1_:=Aside0.mk (blk_grown (g:=gb117) (o:=.cells #[.slice none 0 0,.int .i64 0,.int .i64 0,.int .i64 0,.string (⟨#[]⟩:ByteArray),.int .i64 0] 29 (0,0)) (by (with_reducible repeat (first|refine blk_drewN ?_ _|refine blk_drew ?_|refine blk_alloc ?_ _));exact BK117.out) hg (Kd.R_ne HO147.out BK117.out (by decide)));have n2_:=Aside0.mk (hb);have n3_:=Aside0.mk (ho);clear BK116;clear BK117;clear HB;clear HO147;have BK116:=n0_;have BK117:=n1_;have HB:=n2_;have HO150:=n3_;clear n0_ n1_ n2_ n3_;clear ho hb hg hat;have q48:(x5_2:Int)≤((l0.length:Int):Int):=of_decide_eq_true (by first|(with_reducible assumption)|assumption);obtain ⟨i048,hi048,_,hsz48,_⟩:=info_parts info25;have hroom48:l0.length≤c0:=HC0.out;have hC48:Kd.C k25 _ A0 l0.length l0:=HR0.out;have q048:(0:Int)≤(x5_2:Int):=of_decide_eq_true (by first|(with_reducible assumption)|assumption);have hcut48:=cut_from (P:=Try.prog) 23 25 .i64 Try.underlying23 hi048 4 hsz48 A0 l0.length c0 x5_2 q048 q48;have hr48:=Kd.C_drop (m:=(x5_2:Int).toNat) (c:=c0) hC48 (by omega) hroom48;obtain ⟨A48,hA48⟩:∃ A1,A1 = (if c0 = (x5_2:Int).toNat then A0 else (A0:Option Addr).map (·.add ((x5_2:Int).toNat * 4))):=⟨_,rfl⟩;obtain ⟨c48,hc48⟩:∃ c1,c1 = c0 - (x5_2:Int).toNat:=⟨_,rfl⟩;have hy48:y151.length = l0.length - (x5_2:Int).toNat:=(by rw [Ny151.out,List.length_drop] <;> omega);rw [show (l0).drop (x5_2:Int).toNat = y151 from Ny151.out.symm] at hr48;replace hr48:Kd.C k25 _ A48 y151.length y151:=(by rw [hA48];exact hr48);rw [← hy48,← hA48,← hc48] at hcut48;have HR154:=Aside0.mk hr48;have HC154:=Aside0.mk (show y151.length≤c48 from by rw [hy48,hc48];exact Nat.sub_le_sub_right hroom48 _);clear hr48 hC48 hroom48 hi048 hsz48 hc48;have KY48:=Aside0.mk hy48;have KA48:=Aside0.mk hA48;clear hy48 hA48;replace q48:=eq_true q48)|((with_reducible refine gate_builtin (b:=.append) (xs:=#[.tmp 48,.tmp 51]) rfl ?_);at_builtin;refine Kd.R_append_rows k25 (w0:=w) w.heap.size rfl (.tmp 48) (.tmp 51) 23 25 (.agg #[(.int .i64 0),(.int .i64 0),(.int .i64 0),(.string ⟨#[]⟩)]) 40 rfl Try.underlying23 info25 rfl (by decide) (by omega) v149 y148 y151 _ _ _ (fun k_=>k_≠gb116) (fun _=>False) rfl rfl ?aO ?aR (fun _ _ h=>h) (fun _ h=>h.elim) ?aF ?aB ?aS ?aL ?_;(case aR=>repeat (first|exact (Kd.C_below HR154.out HB.out)|(with_reducible refine Kd.C_alloc ?_ _)|(with_reducible refine Kd.C_drewN ?_ _)|(with_reducible refine Kd.C_drew ?_)));(case aB=>exact (by repeat (first|(with_reducible first|exact HB.out|apply below_alloc|apply pw_below_drewN|apply below_drew1|refine below_set ?_ GE116.out|refine below_set ?_ GE117.out)|exact HB.out)));(case aF=>exact (fun k_ hk=>Kd.freshB (g:=gb116) (o:=.cells #[.int .i64 a1_0,.int .i64 a1_1,.int .i64 a1_2,.string a1_3] 25 (0,0)) (by (with_reducible repeat (first|refine blk_drewN ?_ _|refine blk_drew ?_|refine blk_alloc ?_ _));exact BK116.out) k_ hk));(case aO=>exact (by (with_reducible repeat (first|apply Kd.R_alloc|apply Kd.R_drewN|apply Kd.R_drew));exact HO150.out));(case aS=>exact (below_size (by repeat (first|(with_reducible first|exact HB.out|apply below_alloc|apply pw_below_drewN|apply below_drew1|refine below_set ?_ GE116.out|refine below_set ?_ GE117.out)|exact HB.out))));(case aL=>have:=LMc40.out;omega);intro v156 w49 ho hb hg hat;rw [← Ny155.out] at ho;have n0_:=Aside0.mk (blk_grown (g:=gb116) (o:=.cells #[.int .i64 a1_0,.int .i64 a1_1,.int .i64 a1_2,.string a1_3] 25 (0,0)) (by (with_reducible repeat (first|refine blk_drewN ?_ _|refine blk_drew ?_|refine blk_alloc ?_ _));exact BK116.out) hg (Kd.R_away HO150.out (fun _ hk=>hk)));have n1_:=Aside0.mk (blk_grown (g:=gb117) (o:=.cells #[.slice none 0 0,.int .i64 0,.int .i64 0,.int .i64 0,.string (⟨#[]⟩:ByteArray),.int .i64 0] 29 (0,0)) (by (with_reducible repeat (first|refine blk_drewN ?_ _|refine blk_drew ?_|refine blk_alloc ?_ _));exact BK117.out) hg (Kd.R_ne HO150.out BK117.out (by decide)));have n2_:=Aside0.mk (hb);have n3_:=Aside0.mk (ho);clear BK116;clear BK117;clear HB;clear HO150;have BK116:=n0_;have BK117:=n1_;have HB:=n2_;have HO157:=n3_;clear n0_ n1_ n2_ n3_;clear ho hb hg hat;obtain ⟨Ao50,co50,eo50⟩:=Kd.R_slice HO157.out;subst eo50;have hcz51_0:w49.cell? ⟨gb117,0,none⟩ = some (.slice none 0 0):=(blk_cell BK117.out 0).trans rfl;have hcz51_1:w49.cell? ⟨gb117,1,none⟩ = some (.int .i64 0):=(blk_cell BK117.out 1).trans rfl;have hcz51_2:w49.cell? ⟨gb117,2,none⟩ = some (.int .i64 0):=(blk_cell BK117.out 2).trans rfl;have hcz51_3:w49.cell? ⟨gb117,3,none⟩ = some (.int .i64 0):=(blk_cell BK117.out 3).trans rfl;have hcz51_4:w49.cell? ⟨gb117,4,none⟩ = some (.string (⟨#[]⟩:ByteArray)):=(blk_cell BK117.out 4).trans rfl;have hcz51_5:w49.cell? ⟨gb117,5,none⟩ = some (.int .i64 0):=(blk_cell BK117.out 5).trans rfl;have hfz51_0:=blk_frozen BK117.out 0;have hfz51_1:=blk_frozen BK117.out 1;have hfz51_2:=blk_frozen BK117.out 2;have hfz51_3:=blk_frozen BK117.out 3;have hfz51_4:=blk_frozen BK117.out 4;have hfz51_5:=blk_frozen BK117.out 5))
            refine bodyPost_ret (results_cell_row rfl _ _ gb117 29 #[.slice Ao50 y155.length co50,.int .i64 0,.int .i64 0,.int .i64 0,.string (⟨#[]⟩:ByteArray),.int .i64 0] (0,0) _ rfl (by (with_reducible repeat (first|refine blk_drewN ?_ _|refine blk_drew ?_|refine blk_alloc ?_ _));refine blk_put (cs:=#[.slice Ao50 y155.length co50,.int .i64 0,.int .i64 0,.int .i64 0,.string (⟨#[]⟩:ByteArray),.int .i64 0]) ?_ 5 _ rfl;(with_reducible repeat (first|refine blk_drewN ?_ _|refine blk_drew ?_|refine blk_alloc ?_ _));refine blk_put (cs:=#[.slice Ao50 y155.length co50,.int .i64 0,.int .i64 0,.int .i64 0,.string (⟨#[]⟩:ByteArray),.int .i64 0]) ?_ 4 _ rfl;(with_reducible repeat (first|refine blk_drewN ?_ _|refine blk_drew ?_|refine blk_alloc ?_ _));refine blk_put (cs:=#[.slice Ao50 y155.length co50,.int .i64 0,.int .i64 0,.int .i64 0,.string (⟨#[]⟩:ByteArray),.int .i64 0]) ?_ 3 _ rfl;(with_reducible repeat (first|refine blk_drewN ?_ _|refine blk_drew ?_|refine blk_alloc ?_ _));refine blk_put (cs:=#[.slice Ao50 y155.length co50,.int .i64 0,.int .i64 0,.int .i64 0,.string (⟨#[]⟩:ByteArray),.int .i64 0]) ?_ 2 _ rfl;(with_reducible repeat (first|refine blk_drewN ?_ _|refine blk_drew ?_|refine blk_alloc ?_ _));refine blk_put (cs:=#[.slice Ao50 y155.length co50,.int .i64 0,.int .i64 0,.int .i64 0,.string (⟨#[]⟩:ByteArray),.int .i64 0]) ?_ 1 _ rfl;(with_reducible repeat (first|refine blk_drewN ?_ _|refine blk_drew ?_|refine blk_alloc ?_ _));refine blk_put (cs:=#[.slice none 0 0,.int .i64 0,.int .i64 0,.int .i64 0,.string (⟨#[]⟩:ByteArray),.int .i64 0]) ?_ 0 _ rfl;(with_reducible repeat (first|refine blk_drewN ?_ _|refine blk_drew ?_|refine blk_alloc ?_ _));exact BK117.out) Try.underlying29 rfl (by kernel_rfl)) rfl ?_
            exact ⟨_,by first|rfl|(simp [errW_none,errW_some] <;> rfl)|(simp [*,errW_none,errW_some] <;> rfl),by (with_reducible repeat (first|apply Kd.R_alloc|apply Kd.R_drewN|apply Kd.R_drew));exact Kd.R_mono (Kd.R_far (p:=⟨gb117,5,none⟩) (Kd.R_far (p:=⟨gb117,4,none⟩) (Kd.R_far (p:=⟨gb117,3,none⟩) (Kd.R_far (p:=⟨gb117,2,none⟩) (Kd.R_far (p:=⟨gb117,1,none⟩) (Kd.R_far (p:=⟨gb117,0,none⟩) (Kd.R_types HO157.out BK117.out (by decide)) (fun _ hk=>hk.2) (.slice Ao50 y155.length co50)) (fun _ hk=>hk.2) (.int .i64 0)) (fun _ hk=>hk.2) (.int .i64 0)) (fun _ hk=>hk.2) (.int .i64 0)) (fun _ hk=>hk.2) (.string (⟨#[]⟩:ByteArray))) (fun _ hk=>hk.2) (.int .i64 0)) (fun _ hk=>trivial),by repeat (first|(with_reducible first|exact HB.out|apply below_alloc|apply pw_below_drewN|apply below_drew1|refine below_set ?_ GE116.out|refine below_set ?_ GE117.out)|exact HB.out)⟩
           ·rw [if_neg c40] at H
            exact absurd H (by simp)
          ·rw [if_neg c37] at H
           exact absurd H (by simp)
         ·rw [if_neg c36] at H
          exact absurd H (by simp)
        ·rw [if_neg c35] at H
         exact absurd H (by simp)
       ·rw [if_neg c34] at H
        exact absurd H (by simp)
end Go.Proofs.Ytaiiikfeaokmhaa.PFnQueue
