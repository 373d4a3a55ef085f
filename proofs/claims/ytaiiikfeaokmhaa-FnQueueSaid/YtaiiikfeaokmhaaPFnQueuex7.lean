import Derived.Test.YtaiiikfeaokmhaaPFnQueuex0
import Derived.Test.YtaiiikfeaokmhaaPFnQueuex2
import Derived.Test.YtaiiikfeaokmhaaPFnQueuex6
namespace Go.Proofs.Ytaiiikfeaokmhaa.PFnQueue
open Go.RowKit Go.Proofs.YtaiiikfeaokmhaaW.PrintWords Go.Proofs.YtaiiikfeaokmhaaW.PrintLast Go.Proofs.YtaiiikfeaokmhaaW.PrintMore
attribute [local go_sem] max2_int min2_int max_two min_two max_three min_three max_four min_four   -- for this text's walks alone
set_option linter.unusedVariables false
set_option linter.unusedSimpArgs false
mutual
def spec_l01Src_l03Queue.l0:Nat→List (S25)→Int→List Int→Int→Int→Int→Option ((List (S25))×Int×Int×Int)
 | 0,_,_,_,_,_,_=>none
 | k + 1,x3,x4,x1000,x1001,x1002,x1003=>if x4 > 0 then ((spec_l01Src_l03DueOf.f k x1000 x1001 x1002 x1003).bind fun bt272=>((spec_QueuePut.f k x3 bt272.1 bt272.2.1 bt272.2.2.1 bt272.2.2.2.1).bind fun bt279=>(if bt279.2.2.2.2.2 = 0 then (spec_l01Src_l03Queue.l0 k bt279.1 (wrap64 (x4 - 1)) x1000 bt272.2.2.2.2.1 bt272.2.2.2.2.2.1 bt272.2.2.2.2.2.2) else (spec_l01Src_l03Queue.l0 k x3 (wrap64 (x4 - 1)) x1000 bt272.2.2.2.2.1 bt272.2.2.2.2.2.1 bt272.2.2.2.2.2.2)))) else ((spec_l01Src_one.f x1000 x1001 x1002 x1003 15).bind fun bt288=>(if bt288.1 = true then (spec_l01Src_l03Queue.j1 k x3 (decide ((x3.length:Int) > 0)) x1000 bt288.2.1 bt288.2.2.1 bt288.2.2.2) else (spec_l01Src_l03Queue.j1 k x3 false x1000 bt288.2.1 bt288.2.2.1 bt288.2.2.2)))
def spec_l01Src_l03Queue.j1:Nat→List (S25)→Bool→List Int→Int→Int→Int→Option ((List (S25))×Int×Int×Int)
 | 0,_,_,_,_,_,_=>none
 | k + 1,x3,x29,x1000,x1001,x1002,x1003=>if x29 = true then (if 0 < (x3.length:Int) then (if x3.length < 3518437208883 then (spec_l01Src_l03Queue.j2 k (x3 ++ [(⟨(rd_T25 x3 0).f0,(rd_T25 x3 0).f1,(rd_T25 x3 0).f2,(rd_T25 x3 0).f3⟩:S25)]) x1000 x1001 x1002 x1003) else (none)) else (none)) else (spec_l01Src_l03Queue.j2 k x3 x1000 x1001 x1002 x1003)
def spec_l01Src_l03Queue.j2:Nat→List (S25)→List Int→Int→Int→Int→Option ((List (S25))×Int×Int×Int)
 | 0,_,_,_,_,_=>none
 | k + 1,x3,x1000,x1001,x1002,x1003=>(spec_l01Src_one.f x1000 x1001 x1002 x1003 30).bind fun bt296=>(if bt296.1 = true then (spec_l01Src_l03Queue.l1 k ([]:List (S25)) 0 x1000 bt296.2.1 bt296.2.2.1 bt296.2.2.2) else (some (x3,bt296.2.1,bt296.2.2.1,bt296.2.2.2)))
def spec_l01Src_l03Queue.l1:Nat→List (S25)→Int→List Int→Int→Int→Int→Option ((List (S25))×Int×Int×Int)
 | 0,_,_,_,_,_,_=>none
 | k + 1,x3,x6,x1000,x1001,x1002,x1003=>(spec_l01Src_n.f x1000 x1001 x1002 x1003 2).bind fun bt300=>(if x6 < (wrap64 (200 + bt300.1)) then (if x3.length < 3518437208883 then (spec_l01Src_l03Queue.l1 k (x3 ++ [(⟨1,x6,0,(⟨#[]⟩:ByteArray)⟩:S25)]) (wrap64 (x6 + 1)) x1000 bt300.2.1 bt300.2.2.1 bt300.2.2.2) else (none)) else (some (x3,bt300.2.1,bt300.2.2.1,bt300.2.2.2)))
end
def spec_l01Src_l03Queue.f (k:Nat) (s0_0:List Int) (s0_1:Int) (s0_2:Int) (s0_3:Int):Option ((List (S25))×Int×Int×Int):=(spec_l01Src_n.f s0_0 s0_1 s0_2 s0_3 9).bind fun bt268=>(spec_l01Src_l03Queue.l0 k (([]:List (S25))) bt268.1 s0_0 bt268.2.1 bt268.2.2.1 bt268.2.2.2)
set_option maxHeartbeats 8000000 in
set_option maxRecDepth 100000 in
theorem spec_l01Src_l03Queue.calls (k:Nat) (g:Nat) (s0_0:List Int) (s0_1:Int) (s0_2:Int) (s0_3:Int) (r1:List (S25)) (r2:Int) (r3:Int) (r4:Int) (w0 w:World) (hI:IsS134 w0 w g s0_0 s0_1 s0_2 s0_3) (hB:Below w0.heap.size w0 w) (h:spec_l01Src_l03Queue.f k s0_0 s0_1 s0_2 s0_3 = some (r1,r2,r3,r4)) :
  Calls Try.prog 62 #[.pointer (some ⟨g,0,none⟩)] w fun e w'=>∃ v0_:Value,e = .returned (v0_)∧Kd.R k25 25 w' w.heap.size (fun _=>True) v0_ r1∧IsS134 w0 w' g s0_0 r2 r3 r4∧Below w0.heap.size w0 w'∧KeepBut w w' g none:=by
 have hu29:=Try.underlying29
 have hu25:=Try.underlying25
 have HI0:=Aside0.mk hI
 have HK:=Aside0.mk (KeepBut.refl w g none)
 have HL:=Aside0.mk hB.size
 clear hI
 have HW0:=Aside0.mk hB.size
 have HB:=Aside0.mk hB
 clear hB
 have H:((spec_l01Src_n.f s0_0 s0_1 s0_2 s0_3 9).bind fun bt268=>(spec_l01Src_l03Queue.l0 k (([]:List (S25))) bt268.1 s0_0 bt268.2.1 bt268.2.2.1 bt268.2.2.2)) = some (r1,r2,r3,r4):=h
 clear h
 obtain ⟨y265,hy265⟩:∃ y_:List (S25),y_ = (([]:List (S25))):=⟨_,rfl⟩
 replace H:((spec_l01Src_n.f s0_0 s0_1 s0_2 s0_3 9).bind fun bt268=>(spec_l01Src_l03Queue.l0 k y265 bt268.1 s0_0 bt268.2.1 bt268.2.2.1 bt268.2.2.2)) = some (r1,r2,r3,r4):=by first|(rw [hy265];with_reducible exact H)|(have H2_:=(Option.bind_some _ _).symm.trans H;rw [hy265];with_reducible exact H2_)|(have H2_:=(Option.bind_some _ _).symm.trans H;with_reducible exact H2_)|with_reducible exact H|(rw [hy265];exact H)|exact H
 have Ny265:=Aside0.mk hy265
 clear hy265
 replace H:=Option.bind_eq_some_iff.mp H
 obtain ⟨⟨t268,t269,t270,t271⟩,A20,H⟩:=H
 replace H:(spec_l01Src_l03Queue.l0 k y265 t268 s0_0 t269 t270 t271) = some (r1,r2,r3,r4):=H
 have A2:=Aside0.mk A20
 clear A20
 have H':=Aside0.mk H
 clear H
 go_enter Try.func62,Try.ntmps62
 go_wp2_with (first|((with_reducible refine gate_dst (N:=7) rfl ?_);(try (refine gate_guard (by rfl) ?_;dsimp only));refine Kd.R_lit k25 _ 25 ?hg (N:=7) ?hd (xs:=([]:List (S25))) (inner:=[]) (ok:=fun _=>True) (okp:=fun _=>True) ?hr ?hp (fun _ hk=>hk) trivial (Below.refl _ _) (Nat.le_refl _) (by simp) ?_;(case hd=>rfl);(case hg=>rfl);(case hr=>first|(go_simp;done)|(go_simp;rfl));(case hp=>exact (Reps.none _ _));intro v266 w3 ho4 hb hg_ hnew_;clear hg_ hnew_;(first|rw [← Ny265.out] at ho4|(simp only [Int.reduceToNat] at ho4;rw [← Ny265.out] at ho4));have n0_:=Aside0.mk (Kd.R_lower ho4 (keep_size (w:=w) (g:=g) (row:=none) (by repeat (first|(with_reducible first|exact HK.out|apply KeepBut.set_|apply keep_drewN|apply keep_drew|apply keep_alloc)|exact HK.out))));have n1_:=Aside0.mk (IsS134.below (by repeat (first|(with_reducible first|exact HI0.out|apply IsS134.alloc|apply IsS134.drewN|apply IsS134.drew|apply IsS134.set_1|apply IsS134.set_2|apply IsS134.set_3)|exact HI0.out)) hb);have n2_:=Aside0.mk (KeepBut.trans (by repeat (first|(with_reducible first|exact HK.out|apply KeepBut.set_|apply keep_drewN|apply keep_drew|apply keep_alloc)|exact HK.out)) (KeepBut.of_below hb g none) (.inl rfl));have n3_:=Aside0.mk (below_step (by repeat (first|(with_reducible first|exact HB.out|apply below_alloc|apply pw_below_drewN|apply below_drew1|refine below_set ?_ (IsS134.ge HI0.out))|exact HB.out)) hb);clear HI0;clear HK;clear HB;have HO267:=n0_;have HI0:=n1_;have HK:=n2_;have HB:=n3_;clear n0_ n1_ n2_ n3_;clear hb ho4)|((with_reducible refine gate_callee (f:=70) rfl ?_);refine goesL_ (some 9) rfl rfl Try.func70 (by kernel_rfl) rfl #[.pointer (some ⟨g,0,none⟩),.int .i64 9] rfl (by (try simp only [List.map_toArray,List.map_cons,List.map_nil]);first|done|rfl|(simp only [List.length_drop,List.length_take];rfl)) ?_;(with_reducible refine (spec_l01Src_n.calls g s0_0 s0_1 s0_2 s0_3 9 t268 t269 t270 t271 w0 _ ?side1 ?side2 A2.out).mono ?_);(case side1=>repeat (first|(with_reducible first|exact HI0.out|apply IsS134.alloc|apply IsS134.drewN|apply IsS134.drew|apply IsS134.set_1|apply IsS134.set_2|apply IsS134.set_3)|exact HI0.out));(case side2=>repeat (first|(with_reducible first|exact HB.out|apply below_alloc|apply pw_below_drewN|apply below_drew1|refine below_set ?_ (IsS134.ge HI0.out))|exact HB.out));rintro e w5 ⟨rfl,hi,hb,hk⟩;refine ⟨_,rfl,?_⟩;have n0_:=Aside0.mk (Kd.R_mono (Kd.R_keep (IsS134.apart (show IsS134 w0 _ g s0_0 s0_1 s0_2 s0_3 from by repeat (first|(with_reducible first|exact HI0.out|apply IsS134.alloc|apply IsS134.drewN|apply IsS134.drew|apply IsS134.set_1|apply IsS134.set_2|apply IsS134.set_3)|exact HI0.out)) (by (with_reducible repeat (first|apply Kd.R_alloc|apply Kd.R_drewN|apply Kd.R_drew));exact HO267.out) (by decide)) hk (fun _ h=>h.2)) (fun _ h=>h.1));have n1_:=Aside0.mk (KeepBut.trans (by repeat (first|(with_reducible first|exact HK.out|apply KeepBut.set_|apply keep_drewN|apply keep_drew|apply keep_alloc)|exact HK.out)) hk (.inl rfl));have n2_:=Aside0.mk (hb);have n3_:=Aside0.mk (hi);clear HO267;clear HK;clear HB;clear HI0;have HO267:=n0_;have HK:=n1_;have HB:=n2_;have HI0:=n3_;clear n0_ n1_ n2_ n3_;(try clear hb);(try clear hb2);(try clear hk);(try clear hi)))
 go_loopg [3,4] k (fun kq v3 v4 w'=>∃ (x3_1:List (S25)) (x4_1:Int) (x1001_1:Int) (x1002_1:Int) (x1003_1:Int),v4 = .int .i64 x4_1∧Aside0 (spec_l01Src_l03Queue.l0 kq x3_1 x4_1 s0_0 x1001_1 x1002_1 x1003_1 = some (r1,r2,r3,r4))∧Aside0 (kq≤k)∧Aside0 (Kd.R k25 25 w' w.heap.size (fun _=>True) v3 x3_1)∧Aside0 (IsS134 w0 w' g s0_0 x1001_1 x1002_1 x1003_1)∧Aside0 (KeepBut w w' g none)∧Aside0 (Below w0.heap.size w0 w'))
 case atStart=>exact ⟨(y265),(t268),(t269),(t270),(t271),(by first|rfl|(simp;done)|(simp [*];done)),H',⟨Nat.le_refl _⟩,⟨by (with_reducible repeat (first|apply Kd.R_alloc|apply Kd.R_drewN|apply Kd.R_drew));exact HO267.out⟩,⟨by repeat (first|(with_reducible first|exact HI0.out|apply IsS134.alloc|apply IsS134.drewN|apply IsS134.drew|apply IsS134.set_1|apply IsS134.set_2|apply IsS134.set_3)|exact HI0.out)⟩,⟨by repeat (first|(with_reducible first|exact HK.out|apply KeepBut.set_|apply keep_drewN|apply keep_drew|apply keep_alloc)|exact HK.out)⟩,⟨by repeat (first|(with_reducible first|exact HB.out|apply below_alloc|apply pw_below_drewN|apply below_drew1|refine below_set ?_ (IsS134.ge HI0.out))|exact HB.out)⟩⟩
 case round =>
  clear H'
  try clear p2
  obtain ⟨x3_1,x4_1,x1001_1,x1002_1,x1003_1,rfl,HA,HK1,HO_3,HI0,HK,HB⟩:=hrel
  cases gk with
  | zero=>exact absurd HA.out (by simp [spec_l01Src_l03Queue.l0])
  | succ k1 =>
   have H:=HA.out
   clear HA
   simp only [spec_l01Src_l03Queue.l0] at H
   by_cases c6:x4_1 > 0
   ·rw [if_pos c6] at H
    have c6b0:decide (0 < x4_1) = true:=decide_eq_true c6
    clear c6
    replace H:=Option.bind_eq_some_iff.mp H
    obtain ⟨⟨t272,t273,t274,t275,t276,t277,t278⟩,A70,H⟩:=H
    replace H:((spec_QueuePut.f k1 x3_1 t272 t273 t274 t275).bind fun bt279=>(if bt279.2.2.2.2.2 = 0 then (spec_l01Src_l03Queue.l0 k1 bt279.1 (wrap64 (x4_1 - 1)) s0_0 t276 t277 t278) else (spec_l01Src_l03Queue.l0 k1 x3_1 (wrap64 (x4_1 - 1)) s0_0 t276 t277 t278))) = some (r1,r2,r3,r4):=H
    have A7:=Aside0.mk A70
    clear A70
    replace H:=Option.bind_eq_some_iff.mp H
    obtain ⟨⟨t279,t282,t283,t284,t285,t286⟩,A80,H⟩:=H
    replace H:(if t286 = 0 then (spec_l01Src_l03Queue.l0 k1 t279 (wrap64 (x4_1 - 1)) s0_0 t276 t277 t278) else (spec_l01Src_l03Queue.l0 k1 x3_1 (wrap64 (x4_1 - 1)) s0_0 t276 t277 t278)) = some (r1,r2,r3,r4):=H
    have A8:=Aside0.mk A80
    clear A80
    by_cases c9:t286 = 0
    ·rw [if_pos c9] at H
     have c9b0:(t286 == 0) = true:=beq_iff_eq.mpr c9
     have c9b1:(t286 != 0) = false:=bne_eq_false_iff_eq.mpr c9
     clear c9
     have H':=Aside0.mk H
     clear H
     go_wp2_with (first|((with_reducible refine gate_callee (f:=63) rfl ?_);refine goesL_ (some 16) rfl rfl Try.func63 (by kernel_rfl) rfl #[.pointer (some ⟨g,0,none⟩)] rfl (by (try simp only [List.map_toArray,List.map_cons,List.map_nil]);first|done|rfl|(simp only [List.length_drop,List.length_take];rfl)) ?_;(with_reducible refine (spec_l01Src_l03DueOf.calls k1 g s0_0 x1001_1 x1002_1 x1003_1 t272 t273 t274 t275 t276 t277 t278 w0 _ ?side1 ?side2 A7.out).mono ?_);(case side1=>repeat (first|(with_reducible first|exact HI0.out|apply IsS134.alloc|apply IsS134.drewN|apply IsS134.drew|apply IsS134.set_1|apply IsS134.set_2|apply IsS134.set_3)|exact HI0.out));(case side2=>repeat (first|(with_reducible first|exact HB.out|apply below_alloc|apply pw_below_drewN|apply below_drew1|refine below_set ?_ (IsS134.ge HI0.out))|exact HB.out));rintro e w10 ⟨rfl,hi,hb,hk⟩;refine ⟨_,rfl,?_⟩;have n0_:=Aside0.mk (Kd.R_mono (Kd.R_keep (IsS134.apart (show IsS134 w0 _ g s0_0 x1001_1 x1002_1 x1003_1 from by repeat (first|(with_reducible first|exact HI0.out|apply IsS134.alloc|apply IsS134.drewN|apply IsS134.drew|apply IsS134.set_1|apply IsS134.set_2|apply IsS134.set_3)|exact HI0.out)) (by (with_reducible repeat (first|apply Kd.R_alloc|apply Kd.R_drewN|apply Kd.R_drew));exact HO_3.out) (by decide)) hk (fun _ h=>h.2)) (fun _ h=>h.1));have n1_:=Aside0.mk (KeepBut.trans (by repeat (first|(with_reducible first|exact HK.out|apply KeepBut.set_|apply keep_drewN|apply keep_drew|apply keep_alloc)|exact HK.out)) hk (.inl rfl));have n2_:=Aside0.mk (hb);have n3_:=Aside0.mk (hi);clear HO_3;clear HK;clear HB;clear HI0;have HO_3:=n0_;have HK:=n1_;have HB:=n2_;have HI0:=n3_;clear n0_ n1_ n2_ n3_;(try clear hb);(try clear hb2);(try clear hk);(try clear hi);obtain ⟨Ao11,co11,eo11⟩:=Kd.R_slice HO_3.out;subst eo11)|((with_reducible refine gate_callee (f:=14) rfl ?_);refine goesL_ (some 17) rfl rfl Try.func14 (by kernel_rfl) rfl #[.slice Ao11 x3_1.length co11,.agg #[.int .i64 t272,.int .i64 t273,.int .i64 t274,.string t275]] rfl (by (try simp only [List.map_toArray,List.map_cons,List.map_nil]);first|done|rfl|(simp only [List.length_drop,List.length_take];rfl)) ?_;(with_reducible refine (spec_QueuePut.calls k1 _ _ x3_1 t272 t273 t274 t275 t279 t282 t283 t284 t285 t286 _ ?side1 ?side2 A8.out).mono ?_);(case side1=>repeat (first|exact (Kd.R_reads' HO_3.out).2.2|(with_reducible refine Kd.C_alloc ?_ _)|(with_reducible refine Kd.C_drewN ?_ _)|(with_reducible refine Kd.C_drew ?_)));(case side2=>exact (Kd.R_reads' HO_3.out).2.1);rintro e w12 ⟨v280,rfl,ho0,hb⟩;refine ⟨_,rfl,?_⟩;have n0_:=Aside0.mk (Kd.R_elder' (by (with_reducible repeat (first|apply Kd.R_alloc|apply Kd.R_drewN|apply Kd.R_drew));exact HO_3.out) (Kd.R_base ho0) hb);have n1_:=Aside0.mk (Kd.R_lower (Kd.R_new' ho0 (Kd.R_lt (by (with_reducible repeat (first|apply Kd.R_alloc|apply Kd.R_drewN|apply Kd.R_drew));exact HO_3.out))) (keep_size (w:=w) (g:=g) (row:=none) (by repeat (first|(with_reducible first|exact HK.out|apply KeepBut.set_|apply keep_drewN|apply keep_drew|apply keep_alloc)|exact HK.out))));have n2_:=Aside0.mk (IsS134.below (by repeat (first|(with_reducible first|exact HI0.out|apply IsS134.alloc|apply IsS134.drewN|apply IsS134.drew|apply IsS134.set_1|apply IsS134.set_2|apply IsS134.set_3)|exact HI0.out)) hb);have n3_:=Aside0.mk (KeepBut.trans (by repeat (first|(with_reducible first|exact HK.out|apply KeepBut.set_|apply keep_drewN|apply keep_drew|apply keep_alloc)|exact HK.out)) (KeepBut.of_below hb g none) (.inl rfl));have n4_:=Aside0.mk (below_step (by repeat (first|(with_reducible first|exact HB.out|apply below_alloc|apply pw_below_drewN|apply below_drew1|refine below_set ?_ (IsS134.ge HI0.out))|exact HB.out)) hb);clear HO_3;clear HI0;clear HK;clear HB;have HO_3:=n0_;have HO281:=n1_;have HI0:=n2_;have HK:=n3_;have HB:=n4_;clear n0_ n1_ n2_ n3_ n4_;(try clear hb);(try clear hb2);(try clear hk);(try clear hi);(try clear ho0))|((with_reducible refine gate_dst (N:=5) rfl ?_);(try (refine gate_guard (by rfl) ?_;dsimp only));refine box_event ?hg (N:=5) ?hd (cs:=#[.slice none 0 0,.int .i64 0,.int .i64 0,.int .i64 0,.string (⟨#[]⟩:ByteArray),.int .i64 0]) (t:=29) ?hr ?_;(case hd=>rfl);(case hg=>rfl);(case hr=>first|(go_simp;done)|(go_simp;rfl));intro gb287 hg w13 hbox hb;have n0_:=Aside0.mk (Kd.R_below (by (with_reducible repeat (first|apply Kd.R_alloc|apply Kd.R_drewN|apply Kd.R_drew));exact HO_3.out) hb);have n1_:=Aside0.mk (Kd.R_below (by (with_reducible repeat (first|apply Kd.R_alloc|apply Kd.R_drewN|apply Kd.R_drew));exact HO281.out) hb);have n2_:=Aside0.mk (IsS134.below (by repeat (first|(with_reducible first|exact HI0.out|apply IsS134.alloc|apply IsS134.drewN|apply IsS134.drew|apply IsS134.set_1|apply IsS134.set_2|apply IsS134.set_3)|exact HI0.out)) hb);have n3_:=Aside0.mk (KeepBut.trans (by repeat (first|(with_reducible first|exact HK.out|apply KeepBut.set_|apply keep_drewN|apply keep_drew|apply keep_alloc)|exact HK.out)) (KeepBut.of_below hb g none) (.inl rfl));have n4_:=Aside0.mk (below_step (by repeat (first|(with_reducible first|exact HB.out|apply below_alloc|apply pw_below_drewN|apply below_drew1|refine below_set ?_ (IsS134.ge HI0.out))|exact HB.out)) hb);have n5_:=Aside0.mk (hbox);have n6_:=Aside0.mk ((by rw [hg];exact (keep_size (w:=w) (g:=g) (row:=none) (by repeat (first|(with_reducible first|exact HK.out|apply KeepBut.set_|apply keep_drewN|apply keep_drew|apply keep_alloc)|exact HK.out))):w.heap.size≤gb287));have n7_:=Aside0.mk ((Nat.le_trans HW0.out (by rw [hg];exact (keep_size (w:=w) (g:=g) (row:=none) (by repeat (first|(with_reducible first|exact HK.out|apply KeepBut.set_|apply keep_drewN|apply keep_drew|apply keep_alloc)|exact HK.out))):w.heap.size≤gb287):w0.heap.size≤gb287));have n8_:=Aside0.mk ((by rw [hg];exact Nat.ne_of_lt (IsS134.lt (show IsS134 w0 _ g s0_0 t276 t277 t278 from by repeat (first|(with_reducible first|exact HI0.out|apply IsS134.alloc|apply IsS134.drewN|apply IsS134.drew|apply IsS134.set_1|apply IsS134.set_2|apply IsS134.set_3)|exact HI0.out))):g≠gb287));have n9_:=Aside0.mk ((by rw [hg];exact Nat.ne_of_gt (IsS134.lt (show IsS134 w0 _ g s0_0 t276 t277 t278 from by repeat (first|(with_reducible first|exact HI0.out|apply IsS134.alloc|apply IsS134.drewN|apply IsS134.drew|apply IsS134.set_1|apply IsS134.set_2|apply IsS134.set_3)|exact HI0.out))):gb287≠g));clear HO_3;clear HO281;clear HI0;clear HK;clear HB;have HO_3:=n0_;have HO281:=n1_;have HI0:=n2_;have HK:=n3_;have HB:=n4_;have BK287:=n5_;have GW287:=n6_;have GE287:=n7_;have NB0_287:=n8_;have NB287_0:=n9_;clear n0_ n1_ n2_ n3_ n4_ n5_ n6_ n7_ n8_ n9_;clear hb hbox hg;obtain ⟨Ao14,co14,eo14⟩:=Kd.R_slice HO281.out;subst eo14;have hnb15:=NB287_0.out;have hnc15:=NB0_287.out;have hcz16_0:w13.cell? ⟨gb287,0,none⟩ = some (.slice none 0 0):=(blk_cell BK287.out 0).trans rfl;have hcz16_1:w13.cell? ⟨gb287,1,none⟩ = some (.int .i64 0):=(blk_cell BK287.out 1).trans rfl;have hcz16_2:w13.cell? ⟨gb287,2,none⟩ = some (.int .i64 0):=(blk_cell BK287.out 2).trans rfl;have hcz16_3:w13.cell? ⟨gb287,3,none⟩ = some (.int .i64 0):=(blk_cell BK287.out 3).trans rfl;have hcz16_4:w13.cell? ⟨gb287,4,none⟩ = some (.string (⟨#[]⟩:ByteArray)):=(blk_cell BK287.out 4).trans rfl;have hcz16_5:w13.cell? ⟨gb287,5,none⟩ = some (.int .i64 0):=(blk_cell BK287.out 5).trans rfl;have hfz16_0:=blk_frozen BK287.out 0;have hfz16_1:=blk_frozen BK287.out 1;have hfz16_2:=blk_frozen BK287.out 2;have hfz16_3:=blk_frozen BK287.out 3;have hfz16_4:=blk_frozen BK287.out 4;have hfz16_5:=blk_frozen BK287.out 5))
     go_roundg k1
     case measure=>have:=HK1.out;omega
     case rel=>exact ⟨(t279),(wrap64 (x4_1 - 1)),(t276),(t277),(t278),(by first|rfl|(simp;done)|(simp [*];done)),H',⟨by have:=HK1.out;omega⟩,⟨by (with_reducible repeat (first|apply Kd.R_alloc|apply Kd.R_drewN|apply Kd.R_drew));exact Kd.R_mono (Kd.R_far (p:=⟨gb287,5,none⟩) (Kd.R_far (p:=⟨gb287,4,none⟩) (Kd.R_far (p:=⟨gb287,3,none⟩) (Kd.R_far (p:=⟨gb287,2,none⟩) (Kd.R_far (p:=⟨gb287,1,none⟩) (Kd.R_far (p:=⟨gb287,0,none⟩) (Kd.R_types HO281.out BK287.out (by decide)) (fun _ hk=>hk.2) (.slice Ao14 t279.length co14)) (fun _ hk=>hk.2) (.int .i64 t282)) (fun _ hk=>hk.2) (.int .i64 t283)) (fun _ hk=>hk.2) (.int .i64 t284)) (fun _ hk=>hk.2) (.string t285)) (fun _ hk=>hk.2) (.int .i64 t286)) (fun _ hk=>trivial)⟩,⟨by repeat (first|(with_reducible first|exact HI0.out|apply IsS134.alloc|apply IsS134.drewN|apply IsS134.drew|apply IsS134.set_1|apply IsS134.set_2|apply IsS134.set_3|refine IsS134.far ?_ NB0_287.out _)|exact HI0.out)⟩,⟨by repeat (first|(with_reducible first|exact HK.out|apply KeepBut.set_|apply keep_drewN|apply keep_drew|apply keep_alloc|refine keep_far ?_ GW287.out _)|exact HK.out)⟩,⟨by repeat (first|(with_reducible first|exact HB.out|apply below_alloc|apply pw_below_drewN|apply below_drew1|refine below_set ?_ (IsS134.ge HI0.out)|refine below_set ?_ GE287.out)|exact HB.out)⟩⟩
    ·rw [if_neg c9] at H
     have c9b0:(t286 == 0) = false:=beq_eq_false_iff_ne.mpr c9
     have c9b1:(t286 != 0) = true:=bne_iff_ne.mpr c9
     have H':=Aside0.mk H
     clear H
     go_wp2_with (first|((with_reducible refine gate_callee (f:=63) rfl ?_);refine goesL_ (some 16) rfl rfl Try.func63 (by kernel_rfl) rfl #[.pointer (some ⟨g,0,none⟩)] rfl (by (try simp only [List.map_toArray,List.map_cons,List.map_nil]);first|done|rfl|(simp only [List.length_drop,List.length_take];rfl)) ?_;(with_reducible refine (spec_l01Src_l03DueOf.calls k1 g s0_0 x1001_1 x1002_1 x1003_1 t272 t273 t274 t275 t276 t277 t278 w0 _ ?side1 ?side2 A7.out).mono ?_);(case side1=>repeat (first|(with_reducible first|exact HI0.out|apply IsS134.alloc|apply IsS134.drewN|apply IsS134.drew|apply IsS134.set_1|apply IsS134.set_2|apply IsS134.set_3)|exact HI0.out));(case side2=>repeat (first|(with_reducible first|exact HB.out|apply below_alloc|apply pw_below_drewN|apply below_drew1|refine below_set ?_ (IsS134.ge HI0.out))|exact HB.out));rintro e w17 ⟨rfl,hi,hb,hk⟩;refine ⟨_,rfl,?_⟩;have n0_:=Aside0.mk (Kd.R_mono (Kd.R_keep (IsS134.apart (show IsS134 w0 _ g s0_0 x1001_1 x1002_1 x1003_1 from by repeat (first|(with_reducible first|exact HI0.out|apply IsS134.alloc|apply IsS134.drewN|apply IsS134.drew|apply IsS134.set_1|apply IsS134.set_2|apply IsS134.set_3)|exact HI0.out)) (by (with_reducible repeat (first|apply Kd.R_alloc|apply Kd.R_drewN|apply Kd.R_drew));exact HO_3.out) (by decide)) hk (fun _ h=>h.2)) (fun _ h=>h.1));have n1_:=Aside0.mk (KeepBut.trans (by repeat (first|(with_reducible first|exact HK.out|apply KeepBut.set_|apply keep_drewN|apply keep_drew|apply keep_alloc)|exact HK.out)) hk (.inl rfl));have n2_:=Aside0.mk (hb);have n3_:=Aside0.mk (hi);clear HO_3;clear HK;clear HB;clear HI0;have HO_3:=n0_;have HK:=n1_;have HB:=n2_;have HI0:=n3_;clear n0_ n1_ n2_ n3_;(try clear hb);(try clear hb2);(try clear hk);(try clear hi);obtain ⟨Ao18,co18,eo18⟩:=Kd.R_slice HO_3.out;subst eo18)|((with_reducible refine gate_callee (f:=14) rfl ?_);refine goesL_ (some 17) rfl rfl Try.func14 (by kernel_rfl) rfl #[.slice Ao18 x3_1.length co18,.agg #[.int .i64 t272,.int .i64 t273,.int .i64 t274,.string t275]] rfl (by (try simp only [List.map_toArray,List.map_cons,List.map_nil]);first|done|rfl|(simp only [List.length_drop,List.length_take];rfl)) ?_;(with_reducible refine (spec_QueuePut.calls k1 _ _ x3_1 t272 t273 t274 t275 t279 t282 t283 t284 t285 t286 _ ?side1 ?side2 A8.out).mono ?_);(case side1=>repeat (first|exact (Kd.R_reads' HO_3.out).2.2|(with_reducible refine Kd.C_alloc ?_ _)|(with_reducible refine Kd.C_drewN ?_ _)|(with_reducible refine Kd.C_drew ?_)));(case side2=>exact (Kd.R_reads' HO_3.out).2.1);rintro e w19 ⟨v280,rfl,ho0,hb⟩;refine ⟨_,rfl,?_⟩;have n0_:=Aside0.mk (Kd.R_elder' (by (with_reducible repeat (first|apply Kd.R_alloc|apply Kd.R_drewN|apply Kd.R_drew));exact HO_3.out) (Kd.R_base ho0) hb);have n1_:=Aside0.mk (Kd.R_lower (Kd.R_new' ho0 (Kd.R_lt (by (with_reducible repeat (first|apply Kd.R_alloc|apply Kd.R_drewN|apply Kd.R_drew));exact HO_3.out))) (keep_size (w:=w) (g:=g) (row:=none) (by repeat (first|(with_reducible first|exact HK.out|apply KeepBut.set_|apply keep_drewN|apply keep_drew|apply keep_alloc)|exact HK.out))));have n2_:=Aside0.mk (IsS134.below (by repeat (first|(with_reducible first|exact HI0.out|apply IsS134.alloc|apply IsS134.drewN|apply IsS134.drew|apply IsS134.set_1|apply IsS134.set_2|apply IsS134.set_3)|exact HI0.out)) hb);have n3_:=Aside0.mk (KeepBut.trans (by repeat (first|(with_reducible first|exact HK.out|apply KeepBut.set_|apply keep_drewN|apply keep_drew|apply keep_alloc)|exact HK.out)) (KeepBut.of_below hb g none) (.inl rfl));have n4_:=Aside0.mk (below_step (by repeat (first|(with_reducible first|exact HB.out|apply below_alloc|apply pw_below_drewN|apply below_drew1|refine below_set ?_ (IsS134.ge HI0.out))|exact HB.out)) hb);clear HO_3;clear HI0;clear HK;clear HB;have HO_3:=n0_;have HO281:=n1_;have HI0:=n2_;have HK:=n3_;have HB:=n4_;clear n0_ n1_ n2_ n3_ n4_;(try clear hb);(try clear hb2);(try clear hk);(try clear hi);(try clear ho0))|((with_reducible refine gate_dst (N:=5) rfl ?_);(try (refine gate_guard (by rfl) ?_;dsimp only));refine box_event ?hg (N:=5) ?hd (cs:=#[.slice none 0 0,.int .i64 0,.int .i64 0,.int .i64 0,.string (⟨#[]⟩:ByteArray),.int .i64 0]) (t:=29) ?hr ?_;(case hd=>rfl);(case hg=>rfl);(case hr=>first|(go_simp;done)|(go_simp;rfl));intro gb287 hg w20 hbox hb;have n0_:=Aside0.mk (Kd.R_below (by (with_reducible repeat (first|apply Kd.R_alloc|apply Kd.R_drewN|apply Kd.R_drew));exact HO_3.out) hb);have n1_:=Aside0.mk (Kd.R_below (by (with_reducible repeat (first|apply Kd.R_alloc|apply Kd.R_drewN|apply Kd.R_drew));exact HO281.out) hb);have n2_:=Aside0.mk (IsS134.below (by repeat (first|(with_reducible first|exact HI0.out|apply IsS134.alloc|apply IsS134.drewN|apply IsS134.drew|apply IsS134.set_1|apply IsS134.set_2|apply IsS134.set_3)|exact HI0.out)) hb);have n3_:=Aside0.mk (KeepBut.trans (by repeat (first|(with_reducible first|exact HK.out|apply KeepBut.set_|apply keep_drewN|apply keep_drew|apply keep_alloc)|exact HK.out)) (KeepBut.of_below hb g none) (.inl rfl));have n4_:=Aside0.mk (below_step (by repeat (first|(with_reducible first|exact HB.out|apply below_alloc|apply pw_below_drewN|apply below_drew1|refine below_set ?_ (IsS134.ge HI0.out))|exact HB.out)) hb);have n5_:=Aside0.mk (hbox);have n6_:=Aside0.mk ((by rw [hg];exact (keep_size (w:=w) (g:=g) (row:=none) (by repeat (first|(with_reducible first|exact HK.out|apply KeepBut.set_|apply keep_drewN|apply keep_drew|apply keep_alloc)|exact HK.out))):w.heap.size≤gb287));have n7_:=Aside0.mk ((Nat.le_trans HW0.out (by rw [hg];exact (keep_size (w:=w) (g:=g) (row:=none) (by repeat (first|(with_reducible first|exact HK.out|apply KeepBut.set_|apply keep_drewN|apply keep_drew|apply keep_alloc)|exact HK.out))):w.heap.size≤gb287):w0.heap.size≤gb287));have n8_:=Aside0.mk ((by rw [hg];exact Nat.ne_of_lt (IsS134.lt (show IsS134 w0 _ g s0_0 t276 t277 t278 from by repeat (first|(with_reducible first|exact HI0.out|apply IsS134.alloc|apply IsS134.drewN|apply IsS134.drew|apply IsS134.set_1|apply IsS134.set_2|apply IsS134.set_3)|exact HI0.out))):g≠gb287));have n9_:=Aside0.mk ((by rw [hg];exact Nat.ne_of_gt (IsS134.lt (show IsS134 w0 _ g s0_0 t276 t277 t278 from by repeat (first|(with_reducible first|exact HI0.out|apply IsS134.alloc|apply IsS134.drewN|apply IsS134.drew|apply IsS134.set_1|apply IsS134.set_2|apply IsS134.set_3)|exact HI0.out))):gb287≠g));clear HO_3;clear HO281;clear HI0;clear HK;clear HB;have HO_3:=n0_;have HO281:=n1_;have HI0:=n2_;have HK:=n3_;have HB:=n4_;have BK287:=n5_;have GW287:=n6_;have GE287:=n7_;have NB0_287:=n8_;have NB287_0:=n9_;clear n0_ n1_ n2_ n3_ n4_ n5_ n6_ n7_ n8_ n9_;clear hb hbox hg;obtain ⟨Ao21,co21,eo21⟩:=Kd.R_slice HO281.out;subst eo21;have hnb22:=NB287_0.out;have hnc22:=NB0_287.out;have hcz23_0:w20.cell? ⟨gb287,0,none⟩ = some (.slice none 0 0):=(blk_cell BK287.out 0).trans rfl;have hcz23_1:w20.cell? ⟨gb287,1,none⟩ = some (.int .i64 0):=(blk_cell BK287.out 1).trans rfl;have hcz23_2:w20.cell? ⟨gb287,2,none⟩ = some (.int .i64 0):=(blk_cell BK287.out 2).trans rfl;have hcz23_3:w20.cell? ⟨gb287,3,none⟩ = some (.int .i64 0):=(blk_cell BK287.out 3).trans rfl;have hcz23_4:w20.cell? ⟨gb287,4,none⟩ = some (.string (⟨#[]⟩:ByteArray)):=(blk_cell BK287.out 4).trans rfl;have hcz23_5:w20.cell? ⟨gb287,5,none⟩ = some (.int .i64 0):=(blk_cell BK287.out 5).trans rfl;have hfz23_0:=blk_frozen BK287.out 0;have hfz23_1:=blk_frozen BK287.out 1;have hfz23_2:=blk_frozen BK287.out 2;have hfz23_3:=blk_frozen BK287.out 3;have hfz23_4:=blk_frozen BK287.out 4;have hfz23_5:=blk_frozen BK287.out 5))
     go_roundg k1
     case measure=>have:=HK1.out;omega
     case rel=>exact ⟨(x3_1),(wrap64 (x4_1 - 1)),(t276),(t277),(t278),(by first|rfl|(simp;done)|(simp [*];done)),H',⟨by have:=HK1.out;omega⟩,⟨by (with_reducible repeat (first|apply Kd.R_alloc|apply Kd.R_drewN|apply Kd.R_drew));exact Kd.R_mono (Kd.R_far (p:=⟨gb287,5,none⟩) (Kd.R_far (p:=⟨gb287,4,none⟩) (Kd.R_far (p:=⟨gb287,3,none⟩) (Kd.R_far (p:=⟨gb287,2,none⟩) (Kd.R_far (p:=⟨gb287,1,none⟩) (Kd.R_far (p:=⟨gb287,0,none⟩) (Kd.R_types HO_3.out BK287.out (by decide)) (fun _ hk=>hk.2) (.slice Ao21 t279.length co21)) (fun _ hk=>hk.2) (.int .i64 t282)) (fun _ hk=>hk.2) (.int .i64 t283)) (fun _ hk=>hk.2) (.int .i64 t284)) (fun _ hk=>hk.2) (.string t285)) (fun _ hk=>hk.2) (.int .i64 t286)) (fun _ hk=>trivial)⟩,⟨by repeat (first|(with_reducible first|exact HI0.out|apply IsS134.alloc|apply IsS134.drewN|apply IsS134.drew|apply IsS134.set_1|apply IsS134.set_2|apply IsS134.set_3|refine IsS134.far ?_ NB0_287.out _)|exact HI0.out)⟩,⟨by repeat (first|(with_reducible first|exact HK.out|apply KeepBut.set_|apply keep_drewN|apply keep_drew|apply keep_alloc|refine keep_far ?_ GW287.out _)|exact HK.out)⟩,⟨by repeat (first|(with_reducible first|exact HB.out|apply below_alloc|apply pw_below_drewN|apply below_drew1|refine below_set ?_ (IsS134.ge HI0.out)|refine below_set ?_ GE287.out)|exact HB.out)⟩⟩
   ·rw [if_neg c6] at H
    have c6b0:decide (0 < x4_1) = false:=decide_eq_false c6
    clear c6
    have HC24:=Aside0.mk H
    clear H
    go_upto_region 8 with (fail)
    go_cut [29] (fun v29 wc=>∃ (kq:Nat) (x29_23:Bool) (x1001_23:Int) (x1002_23:Int) (x1003_23:Int),v29 = .bool x29_23∧Aside0 (spec_l01Src_l03Queue.j1 kq x3_1 x29_23 s0_0 x1001_23 x1002_23 x1003_23 = some (r1,r2,r3,r4))∧Aside0 (kq≤k1)∧Aside0 (Kd.R k25 25 wc w.heap.size (fun _=>True) u3 x3_1)∧Aside0 (IsS134 w0 wc g s0_0 x1001_23 x1002_23 x1003_23)∧Aside0 (KeepBut w wc g none)∧Aside0 (Below w0.heap.size w0 wc))
    case first =>
     have H:=HC24.out
     clear HC24
     replace H:=Option.bind_eq_some_iff.mp H
     obtain ⟨⟨t288,t289,t290,t291⟩,A250,H⟩:=H
     replace H:(if t288 = true then (spec_l01Src_l03Queue.j1 k1 x3_1 (decide ((x3_1.length:Int) > 0)) s0_0 t289 t290 t291) else (spec_l01Src_l03Queue.j1 k1 x3_1 false s0_0 t289 t290 t291)) = some (r1,r2,r3,r4):=H
     have A25:=Aside0.mk A250
     clear A250
     by_cases c26:t288 = true
     ·subst c26
      have H1:(spec_l01Src_l03Queue.j1 k1 x3_1 (decide ((x3_1.length:Int) > 0)) s0_0 t289 t290 t291) = some (r1,r2,r3,r4):=by rw [if_pos rfl] at H;exact H
      clear H
      have H:=H1
      clear H1
      have H':=Aside0.mk H
      clear H
      go_wp2_with (first|((with_reducible refine gate_callee (f:=118) rfl ?_);refine goesL_ (some 24) rfl rfl Try.func118 (by kernel_rfl) rfl #[.pointer (some ⟨g,0,none⟩),.int .i64 15] rfl (by (try simp only [List.map_toArray,List.map_cons,List.map_nil]);first|done|rfl|(simp only [List.length_drop,List.length_take];rfl)) ?_;(with_reducible refine (spec_l01Src_one.calls g s0_0 x1001_1 x1002_1 x1003_1 15 true t289 t290 t291 w0 _ ?side1 ?side2 A25.out).mono ?_);(case side1=>repeat (first|(with_reducible first|exact HI0.out|apply IsS134.alloc|apply IsS134.drewN|apply IsS134.drew|apply IsS134.set_1|apply IsS134.set_2|apply IsS134.set_3)|exact HI0.out));(case side2=>repeat (first|(with_reducible first|exact HB.out|apply below_alloc|apply pw_below_drewN|apply below_drew1|refine below_set ?_ (IsS134.ge HI0.out))|exact HB.out));rintro e w27 ⟨rfl,hi,hb,hk⟩;refine ⟨_,rfl,?_⟩;have n0_:=Aside0.mk (Kd.R_mono (Kd.R_keep (IsS134.apart (show IsS134 w0 _ g s0_0 x1001_1 x1002_1 x1003_1 from by repeat (first|(with_reducible first|exact HI0.out|apply IsS134.alloc|apply IsS134.drewN|apply IsS134.drew|apply IsS134.set_1|apply IsS134.set_2|apply IsS134.set_3)|exact HI0.out)) (by (with_reducible repeat (first|apply Kd.R_alloc|apply Kd.R_drewN|apply Kd.R_drew));exact HO_3.out) (by decide)) hk (fun _ h=>h.2)) (fun _ h=>h.1));have n1_:=Aside0.mk (KeepBut.trans (by repeat (first|(with_reducible first|exact HK.out|apply KeepBut.set_|apply keep_drewN|apply keep_drew|apply keep_alloc)|exact HK.out)) hk (.inl rfl));have n2_:=Aside0.mk (hb);have n3_:=Aside0.mk (hi);clear HO_3;clear HK;clear HB;clear HI0;have HO_3:=n0_;have HK:=n1_;have HB:=n2_;have HI0:=n3_;clear n0_ n1_ n2_ n3_;(try clear hb);(try clear hb2);(try clear hk);(try clear hi);obtain ⟨Ao28,co28,eo28⟩:=Kd.R_slice HO_3.out;subst eo28))
      go_meet
      case rel=>exact ⟨_,(decide ((x3_1.length:Int) > 0)),(t289),(t290),(t291),(by first|rfl|(simp;done)|(simp [*];done)),H',⟨by have:=HK1.out;first|omega|exact Nat.le_refl _⟩,⟨by (with_reducible repeat (first|apply Kd.R_alloc|apply Kd.R_drewN|apply Kd.R_drew));exact HO_3.out⟩,⟨by repeat (first|(with_reducible first|exact HI0.out|apply IsS134.alloc|apply IsS134.drewN|apply IsS134.drew|apply IsS134.set_1|apply IsS134.set_2|apply IsS134.set_3)|exact HI0.out)⟩,⟨by repeat (first|(with_reducible first|exact HK.out|apply KeepBut.set_|apply keep_drewN|apply keep_drew|apply keep_alloc)|exact HK.out)⟩,⟨by repeat (first|(with_reducible first|exact HB.out|apply below_alloc|apply pw_below_drewN|apply below_drew1|refine below_set ?_ (IsS134.ge HI0.out))|exact HB.out)⟩⟩
     ·replace c26:=Bool.eq_false_iff.mpr c26
      subst c26
      have H1:(spec_l01Src_l03Queue.j1 k1 x3_1 false s0_0 t289 t290 t291) = some (r1,r2,r3,r4):=by rw [if_neg (show ¬ (false = true) by decide)] at H;exact H
      clear H
      have H:=H1
      clear H1
      have H':=Aside0.mk H
      clear H
      go_wp2_with (first|((with_reducible refine gate_callee (f:=118) rfl ?_);refine goesL_ (some 24) rfl rfl Try.func118 (by kernel_rfl) rfl #[.pointer (some ⟨g,0,none⟩),.int .i64 15] rfl (by (try simp only [List.map_toArray,List.map_cons,List.map_nil]);first|done|rfl|(simp only [List.length_drop,List.length_take];rfl)) ?_;(with_reducible refine (spec_l01Src_one.calls g s0_0 x1001_1 x1002_1 x1003_1 15 false t289 t290 t291 w0 _ ?side1 ?side2 A25.out).mono ?_);(case side1=>repeat (first|(with_reducible first|exact HI0.out|apply IsS134.alloc|apply IsS134.drewN|apply IsS134.drew|apply IsS134.set_1|apply IsS134.set_2|apply IsS134.set_3)|exact HI0.out));(case side2=>repeat (first|(with_reducible first|exact HB.out|apply below_alloc|apply pw_below_drewN|apply below_drew1|refine below_set ?_ (IsS134.ge HI0.out))|exact HB.out));rintro e w29 ⟨rfl,hi,hb,hk⟩;refine ⟨_,rfl,?_⟩;have n0_:=Aside0.mk (Kd.R_mono (Kd.R_keep (IsS134.apart (show IsS134 w0 _ g s0_0 x1001_1 x1002_1 x1003_1 from by repeat (first|(with_reducible first|exact HI0.out|apply IsS134.alloc|apply IsS134.drewN|apply IsS134.drew|apply IsS134.set_1|apply IsS134.set_2|apply IsS134.set_3)|exact HI0.out)) (by (with_reducible repeat (first|apply Kd.R_alloc|apply Kd.R_drewN|apply Kd.R_drew));exact HO_3.out) (by decide)) hk (fun _ h=>h.2)) (fun _ h=>h.1));have n1_:=Aside0.mk (KeepBut.trans (by repeat (first|(with_reducible first|exact HK.out|apply KeepBut.set_|apply keep_drewN|apply keep_drew|apply keep_alloc)|exact HK.out)) hk (.inl rfl));have n2_:=Aside0.mk (hb);have n3_:=Aside0.mk (hi);clear HO_3;clear HK;clear HB;clear HI0;have HO_3:=n0_;have HK:=n1_;have HB:=n2_;have HI0:=n3_;clear n0_ n1_ n2_ n3_;(try clear hb);(try clear hb2);(try clear hk);(try clear hi)))
      go_meet
      case rel=>exact ⟨_,(false),(t289),(t290),(t291),(by first|rfl|(simp;done)|(simp [*];done)),H',⟨by have:=HK1.out;first|omega|exact Nat.le_refl _⟩,⟨by (with_reducible repeat (first|apply Kd.R_alloc|apply Kd.R_drewN|apply Kd.R_drew));exact HO_3.out⟩,⟨by repeat (first|(with_reducible first|exact HI0.out|apply IsS134.alloc|apply IsS134.drewN|apply IsS134.drew|apply IsS134.set_1|apply IsS134.set_2|apply IsS134.set_3)|exact HI0.out)⟩,⟨by repeat (first|(with_reducible first|exact HK.out|apply KeepBut.set_|apply keep_drewN|apply keep_drew|apply keep_alloc)|exact HK.out)⟩,⟨by repeat (first|(with_reducible first|exact HB.out|apply below_alloc|apply pw_below_drewN|apply below_drew1|refine below_set ?_ (IsS134.ge HI0.out))|exact HB.out)⟩⟩
    case rest =>
     clear HC24
     try clear c1
     try clear c2
     try clear p2
     try clear c6
     try clear c6b0
     try clear p6
     try clear c7
     try clear c9
     try clear c9b0
     try clear c9b1
     try clear c11
     try clear c14
     try clear c15
     try clear c22
     try clear c26
     try clear hcz16_0
     try clear hcz16_1
     try clear hcz16_2
     try clear hcz16_3
     try clear hcz16_4
     try clear hcz16_5
     try clear hcz23_0
     try clear hcz23_1
     try clear hcz23_2
     try clear hcz23_3
     try clear hcz23_4
     try clear hcz23_5
     try clear hfz16_0
     try clear hfz16_1
     try clear hfz16_2
     try clear hfz16_3
     try clear hfz16_4
     try clear hfz16_5
     try clear hfz23_0
     try clear hfz23_1
     try clear hfz23_2
     try clear hfz23_3
     try clear hfz23_4
     try clear hfz23_5
     try clear p2
     obtain ⟨kq,x29_23,x1001_23,x1002_23,x1003_23,rfl,HA,HJ23,HO_3,HI0,HK,HB⟩:=hcut
     cases kq with
     | zero=>exact absurd HA.out (by simp [spec_l01Src_l03Queue.j1])
     | succ kj23 =>
      have H:=HA.out
      clear HA
      simp only [spec_l01Src_l03Queue.j1] at H
      have HC30:=Aside0.mk H
      clear H
      go_upto_if 29 with (fail)
      go_cut [3] (fun v3 wc=>∃ (kq:Nat) (x3_29:List (S25)),Aside0 (spec_l01Src_l03Queue.j2 kq x3_29 s0_0 x1001_23 x1002_23 x1003_23 = some (r1,r2,r3,r4))∧Aside0 (kq≤kj23)∧Aside0 (Kd.R k25 25 wc w.heap.size (fun _=>True) v3 x3_29)∧Aside0 (IsS134 w0 wc g s0_0 x1001_23 x1002_23 x1003_23)∧Aside0 (KeepBut w wc g none)∧Aside0 (Below w0.heap.size w0 wc))
      case first =>
       have H:=HC30.out
       clear HC30
       by_cases c31:x29_23 = true
       ·subst c31
        have H1:(if 0 < (x3_1.length:Int) then (if x3_1.length < 3518437208883 then (spec_l01Src_l03Queue.j2 kj23 (x3_1 ++ [(⟨(rd_T25 x3_1 0).f0,(rd_T25 x3_1 0).f1,(rd_T25 x3_1 0).f2,(rd_T25 x3_1 0).f3⟩:S25)]) s0_0 x1001_23 x1002_23 x1003_23) else (none)) else (none)) = some (r1,r2,r3,r4):=by rw [if_pos rfl] at H;exact H
        clear H
        have H:=H1
        clear H1
        by_cases c32:0 < (x3_1.length:Int)
        ·rw [if_pos c32] at H
         have c32b0:decide (0 < (x3_1.length:Int)) = true:=decide_eq_true c32
         have c32b1:decide (0 < x3_1.length) = true:=decide_eq_true (by omega)
         clear c32
         (first|rw [c32b0]|(simp only [i64_w,i32_w];rw [c32b0])|skip)
         by_cases c33:x3_1.length < 3518437208883
         ·rw [if_pos c33] at H
          have LMc33:=Aside0.mk c33
          clear c33
          obtain ⟨y293,hy293⟩:∃ y_:List (S25),y_ = (x3_1 ++ [(⟨(rd_T25 x3_1 0).f0,(rd_T25 x3_1 0).f1,(rd_T25 x3_1 0).f2,(rd_T25 x3_1 0).f3⟩:S25)]):=⟨_,rfl⟩
          replace H:(spec_l01Src_l03Queue.j2 kj23 y293 s0_0 x1001_23 x1002_23 x1003_23) = some (r1,r2,r3,r4):=by first|(rw [hy293];with_reducible exact H)|(have H2_:=(Option.bind_some _ _).symm.trans H;rw [hy293];with_reducible exact H2_)|(have H2_:=(Option.bind_some _ _).symm.trans H;with_reducible exact H2_)|with_reducible exact H|(rw [hy293];exact H)|exact H
          have Ny293:=Aside0.mk hy293
          clear hy293
          have H':=Aside0.mk H
          clear H
          obtain ⟨Ao34,co34,eo34⟩:=Kd.R_slice HO_3.out
          subst eo34
          have p292:0≤(0:Int):=(by omega)
          have q292:0 < (x3_1.length:Int):=of_decide_eq_true (by first|(with_reducible assumption)|assumption)
          obtain ⟨ad292,e292,hx292_0,hx292_1,hx292_2,hx292_3⟩:=at_T25 (Kd.R_reads' HO_3.out).2.2 0 p292 q292
          cases e292
          have qi292:(0 < x3_1.length) = True:=eq_true (by omega)
          (try rw [show ((0:Int)).toNat = 0 from rfl] at hx292_0)
          (try rw [show 0 * 4 = 0 from rfl] at hx292_0)
          (try rw [Addr.add_zero'] at hx292_0)
          (try rw [show ((0:Int)).toNat = 0 from rfl] at hx292_1)
          (try rw [show 0 * 4 = 0 from rfl] at hx292_1)
          (try rw [Addr.add_zero'] at hx292_1)
          (try rw [show ((0:Int)).toNat = 0 from rfl] at hx292_2)
          (try rw [show 0 * 4 = 0 from rfl] at hx292_2)
          (try rw [Addr.add_zero'] at hx292_2)
          (try rw [show ((0:Int)).toNat = 0 from rfl] at hx292_3)
          (try rw [show 0 * 4 = 0 from rfl] at hx292_3)
          (try rw [Addr.add_zero'] at hx292_3)
          replace p292:=eq_true p292
          replace q292:=eq_true q292
          go_wp2_with (first|((with_reducible refine gate_builtin (b:=.append) (xs:=#[.tmp 30,.tmp 34]) rfl ?_);(try (refine gate_guard (by rfl) ?_;dsimp only));at_builtin;refine Kd.R_append k25 w.heap.size rfl (.tmp 30) (.tmp 34) 23 25 (.agg #[(.int .i64 0),(.int .i64 0),(.int .i64 0),(.string ⟨#[]⟩)]) 40 rfl Try.underlying23 info25 rfl (by decide) (by omega) (.slice (some ad292) x3_1.length co34) x3_1 (⟨(rd_T25 x3_1 0).f0,(rd_T25 x3_1 0).f1,(rd_T25 x3_1 0).f2,(rd_T25 x3_1 0).f3⟩:S25) [.int .i64 ((rd_T25 x3_1 0).f0),.int .i64 ((rd_T25 x3_1 0).f1),.int .i64 ((rd_T25 x3_1 0).f2),.string ((rd_T25 x3_1 0).f3)] (fun _=>True) (fun _=>False) rfl rfl ?aP (fun _ hk=>hk.elim) ?aF ?aO (Below.refl _ _) ?aS ?aL ?_;(case aP=>exact k25_mkM _ _ _ (⟨(rd_T25 x3_1 0).f0,(rd_T25 x3_1 0).f1,(rd_T25 x3_1 0).f2,(rd_T25 x3_1 0).f3⟩:S25));(case aF=>exact (fun _ _=>trivial));(case aO=>exact (by (with_reducible repeat (first|apply Kd.R_alloc|apply Kd.R_drewN|apply Kd.R_drew));exact HO_3.out));(case aS=>exact (keep_size (w:=w) (g:=g) (row:=none) (by repeat (first|(with_reducible first|exact HK.out|apply KeepBut.set_|apply keep_drewN|apply keep_drew|apply keep_alloc)|exact HK.out))));(case aL=>have:=LMc33.out;omega);intro v294 w35 ho hb hg hat;rw [← Ny293.out] at ho;have n0_:=Aside0.mk (IsS134.grown (by repeat (first|(with_reducible first|exact HI0.out|apply IsS134.alloc|apply IsS134.drewN|apply IsS134.drew|apply IsS134.set_1|apply IsS134.set_2|apply IsS134.set_3)|exact HI0.out)) hg (IsS134.own_ne HI0.out HO_3.out (by decide)));have n1_:=Aside0.mk (below_weaken (by repeat (first|(with_reducible first|exact HB.out|apply below_alloc|apply pw_below_drewN|apply below_drew1|refine below_set ?_ (IsS134.ge HI0.out))|exact HB.out)) HL.out hb);have n2_:=Aside0.mk (KeepBut.trans (by repeat (first|(with_reducible first|exact HK.out|apply KeepBut.set_|apply keep_drewN|apply keep_drew|apply keep_alloc)|exact HK.out)) (KeepBut.of_grown hg g) (Kd.R_base2 HO_3.out));have n3_:=Aside0.mk (ho);clear HI0;clear HB;clear HK;clear HO_3;have HI0:=n0_;have HB:=n1_;have HK:=n2_;have HO295:=n3_;clear n0_ n1_ n2_ n3_;clear ho hb hg hat))
          go_meet
          case rel=>exact ⟨_,(y293),H',⟨by have:=HK1.out;have:=HJ23.out;first|omega|exact Nat.le_refl _⟩,⟨by (with_reducible repeat (first|apply Kd.R_alloc|apply Kd.R_drewN|apply Kd.R_drew));exact HO295.out⟩,⟨by repeat (first|(with_reducible first|exact HI0.out|apply IsS134.alloc|apply IsS134.drewN|apply IsS134.drew|apply IsS134.set_1|apply IsS134.set_2|apply IsS134.set_3)|exact HI0.out)⟩,⟨by repeat (first|(with_reducible first|exact HK.out|apply KeepBut.set_|apply keep_drewN|apply keep_drew|apply keep_alloc)|exact HK.out)⟩,⟨by repeat (first|(with_reducible first|exact HB.out|apply below_alloc|apply pw_below_drewN|apply below_drew1|refine below_set ?_ (IsS134.ge HI0.out))|exact HB.out)⟩⟩
         ·rw [if_neg c33] at H
          exact absurd H (by simp)
        ·rw [if_neg c32] at H
         exact absurd H (by simp)
       ·replace c31:=Bool.eq_false_iff.mpr c31
        subst c31
        have H1:(spec_l01Src_l03Queue.j2 kj23 x3_1 s0_0 x1001_23 x1002_23 x1003_23) = some (r1,r2,r3,r4):=by rw [if_neg (show ¬ (false = true) by decide)] at H;exact H
        clear H
        have H:=H1
        clear H1
        have H':=Aside0.mk H
        clear H
        go_wp2
        go_meet
        case rel=>exact ⟨_,(x3_1),H',⟨by have:=HK1.out;have:=HJ23.out;first|omega|exact Nat.le_refl _⟩,⟨by (with_reducible repeat (first|apply Kd.R_alloc|apply Kd.R_drewN|apply Kd.R_drew));exact HO_3.out⟩,⟨by repeat (first|(with_reducible first|exact HI0.out|apply IsS134.alloc|apply IsS134.drewN|apply IsS134.drew|apply IsS134.set_1|apply IsS134.set_2|apply IsS134.set_3)|exact HI0.out)⟩,⟨by repeat (first|(with_reducible first|exact HK.out|apply KeepBut.set_|apply keep_drewN|apply keep_drew|apply keep_alloc)|exact HK.out)⟩,⟨by repeat (first|(with_reducible first|exact HB.out|apply below_alloc|apply pw_below_drewN|apply below_drew1|refine below_set ?_ (IsS134.ge HI0.out))|exact HB.out)⟩⟩
      case rest =>
       clear HC30
       try clear c1
       try clear c2
       try clear p2
       try clear q2
       try clear hx2
       try clear qi2
       try clear c3
       try clear c6
       try clear c6b0
       try clear p6
       try clear c7
       try clear c9
       try clear c9b0
       try clear c9b1
       try clear c11
       try clear c14
       try clear c15
       try clear c22
       try clear c26
       try clear p29
       try clear q29
       try clear hx29
       try clear qi29
       try clear c31
       try clear c32
       try clear c32b0
       try clear c32b1
       try clear c33
       try clear hcz16_0
       try clear hcz16_1
       try clear hcz16_2
       try clear hcz16_3
       try clear hcz16_4
       try clear hcz16_5
       try clear hcz23_0
       try clear hcz23_1
       try clear hcz23_2
       try clear hcz23_3
       try clear hcz23_4
       try clear hcz23_5
       try clear hfz16_0
       try clear hfz16_1
       try clear hfz16_2
       try clear hfz16_3
       try clear hfz16_4
       try clear hfz16_5
       try clear hfz23_0
       try clear hfz23_1
       try clear hfz23_2
       try clear hfz23_3
       try clear hfz23_4
       try clear hfz23_5
       try clear hx292_0
       try clear hx292_1
       try clear hx292_2
       try clear hx292_3
       try clear p2
       try clear p292
       try clear p6
       try clear q292
       obtain ⟨kq,x3_29,HA,HJ29,HO_3,HI0,HK,HB⟩:=hcut
       cases kq with
       | zero=>exact absurd HA.out (by simp [spec_l01Src_l03Queue.j2])
       | succ kj29 =>
        have H:=HA.out
        clear HA
        simp only [spec_l01Src_l03Queue.j2] at H
        replace H:=Option.bind_eq_some_iff.mp H
        obtain ⟨⟨t296,t297,t298,t299⟩,A360,H⟩:=H
        replace H:(if t296 = true then (spec_l01Src_l03Queue.l1 kj29 ([]:List (S25)) 0 s0_0 t297 t298 t299) else (some (x3_29,t297,t298,t299))) = some (r1,r2,r3,r4):=H
        have A36:=Aside0.mk A360
        clear A360
        by_cases c37:t296 = true
        ·subst c37
         have H1:(spec_l01Src_l03Queue.l1 kj29 ([]:List (S25)) 0 s0_0 t297 t298 t299) = some (r1,r2,r3,r4):=by rw [if_pos rfl] at H;exact H
         clear H
         have H:=H1
         clear H1
         have H':=Aside0.mk H
         clear H
         go_wp2_with (first|((with_reducible refine gate_callee (f:=118) rfl ?_);refine goesL_ (some 37) rfl rfl Try.func118 (by kernel_rfl) rfl #[.pointer (some ⟨g,0,none⟩),.int .i64 30] rfl (by (try simp only [List.map_toArray,List.map_cons,List.map_nil]);first|done|rfl|(simp only [List.length_drop,List.length_take];rfl)) ?_;(with_reducible refine (spec_l01Src_one.calls g s0_0 x1001_23 x1002_23 x1003_23 30 true t297 t298 t299 w0 _ ?side1 ?side2 A36.out).mono ?_);(case side1=>repeat (first|(with_reducible first|exact HI0.out|apply IsS134.alloc|apply IsS134.drewN|apply IsS134.drew|apply IsS134.set_1|apply IsS134.set_2|apply IsS134.set_3)|exact HI0.out));(case side2=>repeat (first|(with_reducible first|exact HB.out|apply below_alloc|apply pw_below_drewN|apply below_drew1|refine below_set ?_ (IsS134.ge HI0.out))|exact HB.out));rintro e w38 ⟨rfl,hi,hb,hk⟩;refine ⟨_,rfl,?_⟩;have n0_:=Aside0.mk (Kd.R_mono (Kd.R_keep (IsS134.apart (show IsS134 w0 _ g s0_0 x1001_23 x1002_23 x1003_23 from by repeat (first|(with_reducible first|exact HI0.out|apply IsS134.alloc|apply IsS134.drewN|apply IsS134.drew|apply IsS134.set_1|apply IsS134.set_2|apply IsS134.set_3)|exact HI0.out)) (by (with_reducible repeat (first|apply Kd.R_alloc|apply Kd.R_drewN|apply Kd.R_drew));exact HO_3.out) (by decide)) hk (fun _ h=>h.2)) (fun _ h=>h.1));have n1_:=Aside0.mk (KeepBut.trans (by repeat (first|(with_reducible first|exact HK.out|apply KeepBut.set_|apply keep_drewN|apply keep_drew|apply keep_alloc)|exact HK.out)) hk (.inl rfl));have n2_:=Aside0.mk (hb);have n3_:=Aside0.mk (hi);clear HO_3;clear HK;clear HB;clear HI0;have HO_3:=n0_;have HK:=n1_;have HB:=n2_;have HI0:=n3_;clear n0_ n1_ n2_ n3_;(try clear hb);(try clear hb2);(try clear hk);(try clear hi)))
         go_loopg [3,6] kj29 (fun kq v3 v6 w'=>∃ (x3_4:List (S25)) (x6_4:Int) (x1001_4:Int) (x1002_4:Int) (x1003_4:Int),v6 = .int .i64 x6_4∧Aside0 (spec_l01Src_l03Queue.l1 kq x3_4 x6_4 s0_0 x1001_4 x1002_4 x1003_4 = some (r1,r2,r3,r4))∧Aside0 (kq≤kj29)∧Aside0 (Kd.R k25 25 w' w.heap.size (fun _=>True) v3 x3_4)∧Aside0 (IsS134 w0 w' g s0_0 x1001_4 x1002_4 x1003_4)∧Aside0 (KeepBut w w' g none)∧Aside0 (Below w0.heap.size w0 w'))
         case atStart=>exact ⟨(([]:List (S25))),(0),(t297),(t298),(t299),(by first|rfl|(simp;done)|(simp [*];done)),H',⟨Nat.le_refl _⟩,⟨by first|exact Kd.R_nil _ _ _ _ _|exact Kd.N_nil _ _ _ _ _|exact Kd.V_nil _ _ _ _ _|exact Kd.Q_nil _ _ _ _ _|exact Kd.S_nil _ _ _ _ _⟩,⟨by repeat (first|(with_reducible first|exact HI0.out|apply IsS134.alloc|apply IsS134.drewN|apply IsS134.drew|apply IsS134.set_1|apply IsS134.set_2|apply IsS134.set_3)|exact HI0.out)⟩,⟨by repeat (first|(with_reducible first|exact HK.out|apply KeepBut.set_|apply keep_drewN|apply keep_drew|apply keep_alloc)|exact HK.out)⟩,⟨by repeat (first|(with_reducible first|exact HB.out|apply below_alloc|apply pw_below_drewN|apply below_drew1|refine below_set ?_ (IsS134.ge HI0.out))|exact HB.out)⟩⟩
         case round =>
          clear H'
          try clear c1
          try clear c2
          try clear p2
          try clear q2
          try clear hx2
          try clear qi2
          try clear c3
          try clear c6
          try clear c6b0
          try clear p6
          try clear c7
          try clear c9
          try clear c9b0
          try clear c9b1
          try clear c11
          try clear c14
          try clear c15
          try clear c22
          try clear c26
          try clear p29
          try clear q29
          try clear hx29
          try clear qi29
          try clear c31
          try clear c32
          try clear c32b0
          try clear c32b1
          try clear c33
          try clear c37
          try clear hcz16_0
          try clear hcz16_1
          try clear hcz16_2
          try clear hcz16_3
          try clear hcz16_4
          try clear hcz16_5
          try clear hcz23_0
          try clear hcz23_1
          try clear hcz23_2
          try clear hcz23_3
          try clear hcz23_4
          try clear hcz23_5
          try clear hfz16_0
          try clear hfz16_1
          try clear hfz16_2
          try clear hfz16_3
          try clear hfz16_4
          try clear hfz16_5
          try clear hfz23_0
          try clear hfz23_1
          try clear hfz23_2
          try clear hfz23_3
          try clear hfz23_4
          try clear hfz23_5
          try clear hx292_0
          try clear hx292_1
          try clear hx292_2
          try clear hx292_3
          try clear p2
          try clear p29
          try clear p292
          try clear p6
          try clear q2
          try clear q29
          try clear q292
          obtain ⟨x3_4,x6_4,x1001_4,x1002_4,x1003_4,rfl,HA,HK4,HO_3,HI0,HK,HB⟩:=hrel
          cases gk with
          | zero=>exact absurd HA.out (by simp [spec_l01Src_l03Queue.l1])
          | succ k4 =>
           have H:=HA.out
           clear HA
           simp only [spec_l01Src_l03Queue.l1] at H
           replace H:=Option.bind_eq_some_iff.mp H
           obtain ⟨⟨t300,t301,t302,t303⟩,A390,H⟩:=H
           replace H:(if x6_4 < (wrap64 (200 + t300)) then (if x3_4.length < 3518437208883 then (spec_l01Src_l03Queue.l1 k4 (x3_4 ++ [(⟨1,x6_4,0,(⟨#[]⟩:ByteArray)⟩:S25)]) (wrap64 (x6_4 + 1)) s0_0 t301 t302 t303) else (none)) else (some (x3_4,t301,t302,t303))) = some (r1,r2,r3,r4):=H
           have A39:=Aside0.mk A390
           clear A390
           by_cases c40:x6_4 < (wrap64 (200 + t300))
           ·rw [if_pos c40] at H
            have c40b0:decide (x6_4 < (wrap64 (200 + t300))) = true:=decide_eq_true c40
            clear c40
            by_cases c41:x3_4.length < 3518437208883
            ·rw [if_pos c41] at H
             have LMc41:=Aside0.mk c41
             clear c41
             obtain ⟨y304,hy304⟩:∃ y_:List (S25),y_ = (x3_4 ++ [(⟨1,x6_4,0,(⟨#[]⟩:ByteArray)⟩:S25)]):=⟨_,rfl⟩
             replace H:(spec_l01Src_l03Queue.l1 k4 y304 (wrap64 (x6_4 + 1)) s0_0 t301 t302 t303) = some (r1,r2,r3,r4):=by first|(rw [hy304];with_reducible exact H)|(have H2_:=(Option.bind_some _ _).symm.trans H;rw [hy304];with_reducible exact H2_)|(have H2_:=(Option.bind_some _ _).symm.trans H;with_reducible exact H2_)|with_reducible exact H|(rw [hy304];exact H)|exact H
             have Ny304:=Aside0.mk hy304
             clear hy304
             have H':=Aside0.mk H
             clear H
             go_wp2_with (first|((with_reducible refine gate_callee (f:=70) rfl ?_);refine goesL_ (some 40) rfl rfl Try.func70 (by kernel_rfl) rfl #[.pointer (some ⟨g,0,none⟩),.int .i64 2] rfl (by (try simp only [List.map_toArray,List.map_cons,List.map_nil]);first|done|rfl|(simp only [List.length_drop,List.length_take];rfl)) ?_;(with_reducible refine (spec_l01Src_n.calls g s0_0 x1001_4 x1002_4 x1003_4 2 t300 t301 t302 t303 w0 _ ?side1 ?side2 A39.out).mono ?_);(case side1=>repeat (first|(with_reducible first|exact HI0.out|apply IsS134.alloc|apply IsS134.drewN|apply IsS134.drew|apply IsS134.set_1|apply IsS134.set_2|apply IsS134.set_3)|exact HI0.out));(case side2=>repeat (first|(with_reducible first|exact HB.out|apply below_alloc|apply pw_below_drewN|apply below_drew1|refine below_set ?_ (IsS134.ge HI0.out))|exact HB.out));rintro e w42 ⟨rfl,hi,hb,hk⟩;refine ⟨_,rfl,?_⟩;have n0_:=Aside0.mk (Kd.R_mono (Kd.R_keep (IsS134.apart (show IsS134 w0 _ g s0_0 x1001_4 x1002_4 x1003_4 from by repeat (first|(with_reducible first|exact HI0.out|apply IsS134.alloc|apply IsS134.drewN|apply IsS134.drew|apply IsS134.set_1|apply IsS134.set_2|apply IsS134.set_3)|exact HI0.out)) (by (with_reducible repeat (first|apply Kd.R_alloc|apply Kd.R_drewN|apply Kd.R_drew));exact HO_3.out) (by decide)) hk (fun _ h=>h.2)) (fun _ h=>h.1));have n1_:=Aside0.mk (KeepBut.trans (by repeat (first|(with_reducible first|exact HK.out|apply KeepBut.set_|apply keep_drewN|apply keep_drew|apply keep_alloc)|exact HK.out)) hk (.inl rfl));have n2_:=Aside0.mk (hb);have n3_:=Aside0.mk (hi);clear HO_3;clear HK;clear HB;clear HI0;have HO_3:=n0_;have HK:=n1_;have HB:=n2_;have HI0:=n3_;clear n0_ n1_ n2_ n3_;(try clear hb);(try clear hb2);(try clear hk);(try clear hi))|((with_reducible refine gate_builtin (b:=.append) (xs:=#[.tmp 45,.tmp 48]) rfl ?_);(try (refine gate_guard (by rfl) ?_;dsimp only));at_builtin;refine Kd.R_append k25 w.heap.size rfl (.tmp 45) (.tmp 48) 23 25 (.agg #[(.int .i64 0),(.int .i64 0),(.int .i64 0),(.string ⟨#[]⟩)]) 40 rfl Try.underlying23 info25 rfl (by decide) (by omega) u3 x3_4 (⟨1,x6_4,0,(⟨#[]⟩:ByteArray)⟩:S25) [.int .i64 1,.int .i64 x6_4,.int .i64 0,.string (⟨#[]⟩:ByteArray)] (fun _=>True) (fun _=>False) rfl rfl ?aP (fun _ hk=>hk.elim) ?aF ?aO (Below.refl _ _) ?aS ?aL ?_;(case aP=>exact k25_mkM _ _ _ (⟨1,x6_4,0,(⟨#[]⟩:ByteArray)⟩:S25));(case aF=>exact (fun _ _=>trivial));(case aO=>exact (by (with_reducible repeat (first|apply Kd.R_alloc|apply Kd.R_drewN|apply Kd.R_drew));exact HO_3.out));(case aS=>exact (keep_size (w:=w) (g:=g) (row:=none) (by repeat (first|(with_reducible first|exact HK.out|apply KeepBut.set_|apply keep_drewN|apply keep_drew|apply keep_alloc)|exact HK.out))));(case aL=>have:=LMc41.out;omega);intro v305 w43 ho hb hg hat;rw [← Ny304.out] at ho;have n0_:=Aside0.mk (IsS134.grown (by repeat (first|(with_reducible first|exact HI0.out|apply IsS134.alloc|apply IsS134.drewN|apply IsS134.drew|apply IsS134.set_1|apply IsS134.set_2|apply IsS134.set_3)|exact HI0.out)) hg (IsS134.own_ne HI0.out HO_3.out (by decide)));have n1_:=Aside0.mk (below_weaken (by repeat (first|(with_reducible first|exact HB.out|apply below_alloc|apply pw_below_drewN|apply below_drew1|refine below_set ?_ (IsS134.ge HI0.out))|exact HB.out)) HL.out hb);have n2_:=Aside0.mk (KeepBut.trans (by repeat (first|(with_reducible first|exact HK.out|apply KeepBut.set_|apply keep_drewN|apply keep_drew|apply keep_alloc)|exact HK.out)) (KeepBut.of_grown hg g) (Kd.R_base2 HO_3.out));have n3_:=Aside0.mk (ho);clear HI0;clear HB;clear HK;clear HO_3;have HI0:=n0_;have HB:=n1_;have HK:=n2_;have HO306:=n3_;clear n0_ n1_ n2_ n3_;clear ho hb hg hat))
             go_roundg k4
             case measure=>have:=HK1.out;have:=HJ23.out;have:=HJ29.out;have:=HK4.out;omega
             case rel=>exact ⟨(y304),(wrap64 (x6_4 + 1)),(t301),(t302),(t303),(by first|rfl|(simp;done)|(simp [*];done)),H',⟨by have:=HK1.out;have:=HJ23.out;have:=HJ29.out;have:=HK4.out;omega⟩,⟨by (with_reducible repeat (first|apply Kd.R_alloc|apply Kd.R_drewN|apply Kd.R_drew));exact HO306.out⟩,⟨by repeat (first|(with_reducible first|exact HI0.out|apply IsS134.alloc|apply IsS134.drewN|apply IsS134.drew|apply IsS134.set_1|apply IsS134.set_2|apply IsS134.set_3)|exact HI0.out)⟩,⟨by repeat (first|(with_reducible first|exact HK.out|apply KeepBut.set_|apply keep_drewN|apply keep_drew|apply keep_alloc)|exact HK.out)⟩,⟨by repeat (first|(with_reducible first|exact HB.out|apply below_alloc|apply pw_below_drewN|apply below_drew1|refine below_set ?_ (IsS134.ge HI0.out))|exact HB.out)⟩⟩
            ·rw [if_neg c41] at H
             exact absurd H (by simp)
           ·rw [if_neg c40] at H
            have c40b0:decide (x6_4 < (wrap64 (200 + t300))) = false:=decide_eq_false c40
            clear c40
            simp only [Option.some.injEq,Prod.mk.injEq] at H
            obtain ⟨rfl,rfl,rfl,rfl⟩:=H
            go_wp2_with (first|((with_reducible refine gate_callee (f:=70) rfl ?_);refine goesL_ (some 40) rfl rfl Try.func70 (by kernel_rfl) rfl #[.pointer (some ⟨g,0,none⟩),.int .i64 2] rfl (by (try simp only [List.map_toArray,List.map_cons,List.map_nil]);first|done|rfl|(simp only [List.length_drop,List.length_take];rfl)) ?_;(with_reducible refine (spec_l01Src_n.calls g s0_0 x1001_4 x1002_4 x1003_4 2 t300 t301 t302 t303 w0 _ ?side1 ?side2 A39.out).mono ?_);(case side1=>repeat (first|(with_reducible first|exact HI0.out|apply IsS134.alloc|apply IsS134.drewN|apply IsS134.drew|apply IsS134.set_1|apply IsS134.set_2|apply IsS134.set_3)|exact HI0.out));(case side2=>repeat (first|(with_reducible first|exact HB.out|apply below_alloc|apply pw_below_drewN|apply below_drew1|refine below_set ?_ (IsS134.ge HI0.out))|exact HB.out));rintro e w44 ⟨rfl,hi,hb,hk⟩;refine ⟨_,rfl,?_⟩;have n0_:=Aside0.mk (Kd.R_mono (Kd.R_keep (IsS134.apart (show IsS134 w0 _ g s0_0 x1001_4 x1002_4 x1003_4 from by repeat (first|(with_reducible first|exact HI0.out|apply IsS134.alloc|apply IsS134.drewN|apply IsS134.drew|apply IsS134.set_1|apply IsS134.set_2|apply IsS134.set_3)|exact HI0.out)) (by (with_reducible repeat (first|apply Kd.R_alloc|apply Kd.R_drewN|apply Kd.R_drew));exact HO_3.out) (by decide)) hk (fun _ h=>h.2)) (fun _ h=>h.1));have n1_:=Aside0.mk (KeepBut.trans (by repeat (first|(with_reducible first|exact HK.out|apply KeepBut.set_|apply keep_drewN|apply keep_drew|apply keep_alloc)|exact HK.out)) hk (.inl rfl));have n2_:=Aside0.mk (hb);have n3_:=Aside0.mk (hi);clear HO_3;clear HK;clear HB;clear HI0;have HO_3:=n0_;have HK:=n1_;have HB:=n2_;have HI0:=n3_;clear n0_ n1_ n2_ n3_;(try clear hb);(try clear hb2);(try clear hk);(try clear hi)))
            go_ret
            exact ⟨_,by first|rfl|(simp [errW_none,errW_some] <;> rfl)|(simp [*,errW_none,errW_some] <;> rfl),by (with_reducible repeat (first|apply Kd.R_alloc|apply Kd.R_drewN|apply Kd.R_drew));exact HO_3.out,by repeat (first|(with_reducible first|exact HI0.out|apply IsS134.alloc|apply IsS134.drewN|apply IsS134.drew|apply IsS134.set_1|apply IsS134.set_2|apply IsS134.set_3)|exact HI0.out),by repeat (first|(with_reducible first|exact HB.out|apply below_alloc|apply pw_below_drewN|apply below_drew1|refine below_set ?_ (IsS134.ge HI0.out))|exact HB.out),by repeat (first|(with_reducible first|exact HK.out|apply KeepBut.set_|apply keep_drewN|apply keep_drew|apply keep_alloc)|exact HK.out)⟩
        ·replace c37:=Bool.eq_false_iff.mpr c37
         subst c37
         have H1:(some (x3_29,t297,t298,t299)) = some (r1,r2,r3,r4):=by rw [if_neg (show ¬ (false = true) by decide)] at H;exact H
         clear H
         have H:=H1
         clear H1
         simp only [Option.some.injEq,Prod.mk.injEq] at H
         obtain ⟨rfl,rfl,rfl,rfl⟩:=H
         go_wp2_with (first|((with_reducible refine gate_callee (f:=118) rfl ?_);refine goesL_ (some 37) rfl rfl Try.func118 (by kernel_rfl) rfl #[.pointer (some ⟨g,0,none⟩),.int .i64 30] rfl (by (try simp only [List.map_toArray,List.map_cons,List.map_nil]);first|done|rfl|(simp only [List.length_drop,List.length_take];rfl)) ?_;(with_reducible refine (spec_l01Src_one.calls g s0_0 x1001_23 x1002_23 x1003_23 30 false t297 t298 t299 w0 _ ?side1 ?side2 A36.out).mono ?_);(case side1=>repeat (first|(with_reducible first|exact HI0.out|apply IsS134.alloc|apply IsS134.drewN|apply IsS134.drew|apply IsS134.set_1|apply IsS134.set_2|apply IsS134.set_3)|exact HI0.out));(case side2=>repeat (first|(with_reducible first|exact HB.out|apply below_alloc|apply pw_below_drewN|apply below_drew1|refine below_set ?_ (IsS134.ge HI0.out))|exact HB.out));rintro e w45 ⟨rfl,hi,hb,hk⟩;refine ⟨_,rfl,?_⟩;have n0_:=Aside0.mk (Kd.R_mono (Kd.R_keep (IsS134.apart (show IsS134 w0 _ g s0_0 x1001_23 x1002_23 x1003_23 from by repeat (first|(with_reducible first|exact HI0.out|apply IsS134.alloc|apply IsS134.drewN|apply IsS134.drew|apply IsS134.set_1|apply IsS134.set_2|apply IsS134.set_3)|exact HI0.out)) (by (with_reducible repeat (first|apply Kd.R_alloc|apply Kd.R_drewN|apply Kd.R_drew));exact HO_3.out) (by decide)) hk (fun _ h=>h.2)) (fun _ h=>h.1));have n1_:=Aside0.mk (KeepBut.trans (by repeat (first|(with_reducible first|exact HK.out|apply KeepBut.set_|apply keep_drewN|apply keep_drew|apply keep_alloc)|exact HK.out)) hk (.inl rfl));have n2_:=Aside0.mk (hb);have n3_:=Aside0.mk (hi);clear HO_3;clear HK;clear HB;clear HI0;have HO_3:=n0_;have HK:=n1_;have HB:=n2_;have HI0:=n3_;clear n0_ n1_ n2_ n3_;(try clear hb);(try clear hb2);(try clear hk);(try clear hi)))
         go_ret
         exact ⟨_,by first|rfl|(simp [errW_none,errW_some] <;> rfl)|(simp [*,errW_none,errW_some] <;> rfl),by (with_reducible repeat (first|apply Kd.R_alloc|apply Kd.R_drewN|apply Kd.R_drew));exact HO_3.out,by repeat (first|(with_reducible first|exact HI0.out|apply IsS134.alloc|apply IsS134.drewN|apply IsS134.drew|apply IsS134.set_1|apply IsS134.set_2|apply IsS134.set_3)|exact HI0.out),by repeat (first|(with_reducible first|exact HB.out|apply below_alloc|apply pw_below_drewN|apply below_drew1|refine below_set ?_ (IsS134.ge HI0.out))|exact HB.out),by repeat (first|(with_reducible first|exact HK.out|apply KeepBut.set_|apply keep_drewN|apply keep_drew|apply keep_alloc)|exact HK.out)⟩
def spec_DrawQueuePut.f (k:Nat) (l0:List Int):Option ((List (S25))×Int×Int×Int×ByteArray):=(spec_l01Source.f k l0).bind fun bt308=>((spec_l01Src_l03Queue.f k bt308.1 bt308.2.1 bt308.2.2.1 bt308.2.2.2).bind fun bt313=>((spec_l01Src_l03DueOf.f k bt308.1 bt313.2.1 bt313.2.2.1 bt313.2.2.2).bind fun bt319=>(some (bt313.1,bt319.1,bt319.2.1,bt319.2.2.1,bt319.2.2.2.1))))
set_option maxHeartbeats 8000000 in
set_option maxRecDepth 100000 in
theorem spec_DrawQueuePut.calls (k:Nat) (A0:Option Addr) (c0:Nat) (l0:List Int) (r1:List (S25)) (r2:Int) (r3:Int) (r4:Int) (r5:ByteArray) (w:World) (hr0:Kd.C (Kd.int .u8) w A0 l0.length l0) (hc0:l0.length≤c0) (h:spec_DrawQueuePut.f k l0 = some (r1,r2,r3,r4,r5)) :
  Calls Try.prog 7 #[.slice A0 l0.length c0] w fun e w'=>∃ v0_:Value,e = .returned (.tuple #[v0_,.agg #[.int .i64 r2,.int .i64 r3,.int .i64 r4,.string r5]])∧Kd.R k25 25 w' w.heap.size (fun _=>True) v0_ r1∧Below w.heap.size w w':=by
 have hu25:=Try.underlying25
 have HR0:=Aside0.mk hr0
 have HC0:=Aside0.mk hc0
 clear hr0 hc0
 have HB:=Aside0.mk (Below.refl w.heap.size w)
 have H:((spec_l01Source.f k l0).bind fun bt308=>((spec_l01Src_l03Queue.f k bt308.1 bt308.2.1 bt308.2.2.1 bt308.2.2.2).bind fun bt313=>((spec_l01Src_l03DueOf.f k bt308.1 bt313.2.1 bt313.2.2.1 bt313.2.2.2).bind fun bt319=>(some (bt313.1,bt319.1,bt319.2.1,bt319.2.2.1,bt319.2.2.2.1))))) = some (r1,r2,r3,r4,r5):=h
 clear h
 replace H:=Option.bind_eq_some_iff.mp H
 obtain ⟨⟨t308,t309,t310,t311⟩,A20,H⟩:=H
 replace H:((spec_l01Src_l03Queue.f k t308 t309 t310 t311).bind fun bt313=>((spec_l01Src_l03DueOf.f k t308 bt313.2.1 bt313.2.2.1 bt313.2.2.2).bind fun bt319=>(some (bt313.1,bt319.1,bt319.2.1,bt319.2.2.1,bt319.2.2.2.1)))) = some (r1,r2,r3,r4,r5):=H
 have A2:=Aside0.mk A20
 clear A20
 replace H:=Option.bind_eq_some_iff.mp H
 obtain ⟨⟨t313,t316,t317,t318⟩,A30,H⟩:=H
 replace H:((spec_l01Src_l03DueOf.f k t308 t316 t317 t318).bind fun bt319=>(some (t313,bt319.1,bt319.2.1,bt319.2.2.1,bt319.2.2.2.1))) = some (r1,r2,r3,r4,r5):=H
 have A3:=Aside0.mk A30
 clear A30
 replace H:=Option.bind_eq_some_iff.mp H
 obtain ⟨⟨t319,t320,t321,t322,t323,t324,t325⟩,A40,H⟩:=H
 replace H:(some (t313,t319,t320,t321,t322)) = some (r1,r2,r3,r4,r5):=H
 have A4:=Aside0.mk A40
 clear A40
 simp only [Option.some.injEq,Prod.mk.injEq] at H
 obtain ⟨rfl,rfl,rfl,rfl,rfl⟩:=H
 go_enter Try.func7,Try.ntmps7
 go_wp2_with (first|((with_reducible refine gate_dst (N:=3) rfl ?_);refine box_event ?hg (N:=3) ?hd (cs:=#[.int .i64 0,.int .i64 0,.int .i64 0,.string (⟨#[]⟩:ByteArray)]) (t:=25) ?hr ?_;(case hd=>rfl);(case hg=>rfl);(case hr=>first|(go_simp;done)|(go_simp;rfl));intro gb307 hg w5 hbox hb;have n0_:=Aside0.mk (below_step (by repeat (first|(with_reducible first|exact HB.out|apply below_alloc|apply pw_below_drewN|apply below_drew1)|exact HB.out)) hb);have n1_:=Aside0.mk (hbox);have n2_:=Aside0.mk ((by rw [hg];exact (below_size (by repeat (first|(with_reducible first|exact HB.out|apply below_alloc|apply pw_below_drewN|apply below_drew1)|exact HB.out))):w.heap.size≤gb307));have n3_:=Aside0.mk ((by rw [hg];exact (below_size (by repeat (first|(with_reducible first|exact HB.out|apply below_alloc|apply pw_below_drewN|apply below_drew1)|exact HB.out))):w.heap.size≤gb307));clear HB;have HB:=n0_;have BK307:=n1_;have GW307:=n2_;have GE307:=n3_;clear n0_ n1_ n2_ n3_;clear hb hbox hg)|((with_reducible refine gate_callee (f:=61) rfl ?_);refine goesL_ (some 7) rfl rfl Try.func61 (by kernel_rfl) rfl #[.slice A0 l0.length c0] rfl (by (try simp only [List.map_toArray,List.map_cons,List.map_nil]);first|done|rfl|(simp only [List.length_drop,List.length_take];rfl)) ?_;(with_reducible refine (spec_l01Source.calls k _ _ l0 t308 t309 t310 t311 w _ ?side1 ?side2 ?side3 A2.out).mono ?_);(case side1=>repeat (first|(with_reducible first|exact HB.out|apply below_alloc|apply pw_below_drewN|apply below_drew1|refine below_set ?_ GE307.out)|exact HB.out));(case side2=>exact HR0.out);(case side3=>exact HC0.out);rintro e w6 ⟨g312,rfl,hi,hb,hb2⟩;refine ⟨_,rfl,?_⟩;have n0_:=Aside0.mk (blk_below (g:=gb307) (o:=.cells #[.int .i64 0,.int .i64 0,.int .i64 0,.string (⟨#[]⟩:ByteArray)] 25 (0,0)) (by (with_reducible repeat (first|refine blk_drewN ?_ _|refine blk_drew ?_|refine blk_alloc ?_ _));exact BK307.out) hb2);have n1_:=Aside0.mk (hb);have n2_:=Aside0.mk (hi);have n3_:=Aside0.mk (IsS134.ne_blk hi (blk_below (g:=gb307) (o:=.cells #[.int .i64 0,.int .i64 0,.int .i64 0,.string (⟨#[]⟩:ByteArray)] 25 (0,0)) (by (with_reducible repeat (first|refine blk_drewN ?_ _|refine blk_drew ?_|refine blk_alloc ?_ _));exact BK307.out) hb2) (by decide));have n4_:=Aside0.mk (Ne.symm (IsS134.ne_blk hi (blk_below (g:=gb307) (o:=.cells #[.int .i64 0,.int .i64 0,.int .i64 0,.string (⟨#[]⟩:ByteArray)] 25 (0,0)) (by (with_reducible repeat (first|refine blk_drewN ?_ _|refine blk_drew ?_|refine blk_alloc ?_ _));exact BK307.out) hb2) (by decide)));clear BK307;clear HB;have BK307:=n0_;have HB:=n1_;have HI312:=n2_;have NB312_307:=n3_;have NB307_312:=n4_;clear n0_ n1_ n2_ n3_ n4_;(try clear hb);(try clear hb2);(try clear hk);(try clear hi))|((with_reducible refine gate_callee (f:=62) rfl ?_);refine goesL_ (some 9) rfl rfl Try.func62 (by kernel_rfl) rfl #[.pointer (some ⟨g312,0,none⟩)] rfl (by (try simp only [List.map_toArray,List.map_cons,List.map_nil]);first|done|rfl|(simp only [List.length_drop,List.length_take];rfl)) ?_;(with_reducible refine (spec_l01Src_l03Queue.calls k g312 t308 t309 t310 t311 t313 t316 t317 t318 w _ ?side1 ?side2 A3.out).mono ?_);(case side1=>repeat (first|(with_reducible first|exact HI312.out|apply IsS134.alloc|apply IsS134.drewN|apply IsS134.drew|apply IsS134.set_1|apply IsS134.set_2|apply IsS134.set_3|refine IsS134.far ?_ NB312_307.out _)|exact HI312.out));(case side2=>repeat (first|(with_reducible first|exact HB.out|apply below_alloc|apply pw_below_drewN|apply below_drew1|refine below_set ?_ (IsS134.ge HI312.out)|refine below_set ?_ GE307.out)|exact HB.out));rintro e w7 ⟨v314,rfl,ho0,hi,hb,hk⟩;refine ⟨_,rfl,?_⟩;have n0_:=Aside0.mk (KeepBut.blk hk (g':=gb307) (o:=.cells #[.int .i64 0,.int .i64 0,.int .i64 0,.string (⟨#[]⟩:ByteArray)] 25 (0,0)) (by (with_reducible repeat (first|refine blk_drewN ?_ _|refine blk_drew ?_|refine blk_alloc ?_ _));exact BK307.out) NB307_312.out (by simp));have n1_:=Aside0.mk (Kd.R_lower (Kd.R_newB ho0 (g:=gb307) (o:=.cells #[.int .i64 0,.int .i64 0,.int .i64 0,.string (⟨#[]⟩:ByteArray)] 25 (0,0)) (by (with_reducible repeat (first|refine blk_drewN ?_ _|refine blk_drew ?_|refine blk_alloc ?_ _));exact BK307.out)) (below_size (by repeat (first|(with_reducible first|exact HB.out|apply below_alloc|apply pw_below_drewN|apply below_drew1|refine below_set ?_ (IsS134.ge HI312.out)|refine below_set ?_ GE307.out)|exact HB.out))));have n2_:=Aside0.mk (hb);have n3_:=Aside0.mk (hi);clear BK307;clear HB;clear HI312;have BK307:=n0_;have HO315:=n1_;have HB:=n2_;have HI312:=n3_;clear n0_ n1_ n2_ n3_;(try clear hb);(try clear hb2);(try clear hk);(try clear hi);(try clear ho0))|((with_reducible refine gate_callee (f:=63) rfl ?_);refine goesL_ (some 12) rfl rfl Try.func63 (by kernel_rfl) rfl #[.pointer (some ⟨g312,0,none⟩)] rfl (by (try simp only [List.map_toArray,List.map_cons,List.map_nil]);first|done|rfl|(simp only [List.length_drop,List.length_take];rfl)) ?_;(with_reducible refine (spec_l01Src_l03DueOf.calls k g312 t308 t316 t317 t318 t319 t320 t321 t322 t323 t324 t325 w _ ?side1 ?side2 A4.out).mono ?_);(case side1=>repeat (first|(with_reducible first|exact HI312.out|apply IsS134.alloc|apply IsS134.drewN|apply IsS134.drew|apply IsS134.set_1|apply IsS134.set_2|apply IsS134.set_3|refine IsS134.far ?_ NB312_307.out _)|exact HI312.out));(case side2=>repeat (first|(with_reducible first|exact HB.out|apply below_alloc|apply pw_below_drewN|apply below_drew1|refine below_set ?_ (IsS134.ge HI312.out)|refine below_set ?_ GE307.out)|exact HB.out));rintro e w8 ⟨rfl,hi,hb,hk⟩;refine ⟨_,rfl,?_⟩;have n0_:=Aside0.mk (KeepBut.blk hk (g':=gb307) (o:=.cells #[.int .i64 0,.int .i64 0,.int .i64 0,.string (⟨#[]⟩:ByteArray)] 25 (0,0)) (by (with_reducible repeat (first|refine blk_drewN ?_ _|refine blk_drew ?_|refine blk_alloc ?_ _));exact BK307.out) NB307_312.out (by simp));have n1_:=Aside0.mk (Kd.R_mono (Kd.R_keep (IsS134.apart (show IsS134 w _ g312 t308 t316 t317 t318 from by repeat (first|(with_reducible first|exact HI312.out|apply IsS134.alloc|apply IsS134.drewN|apply IsS134.drew|apply IsS134.set_1|apply IsS134.set_2|apply IsS134.set_3|refine IsS134.far ?_ NB312_307.out _)|exact HI312.out)) (by (with_reducible repeat (first|apply Kd.R_alloc|apply Kd.R_drewN|apply Kd.R_drew));exact HO315.out) (by decide)) hk (fun _ h=>h.2)) (fun _ h=>h.1));have n2_:=Aside0.mk (hb);have n3_:=Aside0.mk (hi);clear BK307;clear HO315;clear HB;clear HI312;have BK307:=n0_;have HO315:=n1_;have HB:=n2_;have HI312:=n3_;clear n0_ n1_ n2_ n3_;(try clear hb);(try clear hb2);(try clear hk);(try clear hi);have hnb9:=NB307_312.out;have hnc9:=NB312_307.out;have hcz10_0:w8.cell? ⟨gb307,0,none⟩ = some (.int .i64 0):=(blk_cell BK307.out 0).trans rfl;have hcz10_1:w8.cell? ⟨gb307,1,none⟩ = some (.int .i64 0):=(blk_cell BK307.out 1).trans rfl;have hcz10_2:w8.cell? ⟨gb307,2,none⟩ = some (.int .i64 0):=(blk_cell BK307.out 2).trans rfl;have hcz10_3:w8.cell? ⟨gb307,3,none⟩ = some (.string (⟨#[]⟩:ByteArray)):=(blk_cell BK307.out 3).trans rfl;have hfz10_0:=blk_frozen BK307.out 0;have hfz10_1:=blk_frozen BK307.out 1;have hfz10_2:=blk_frozen BK307.out 2;have hfz10_3:=blk_frozen BK307.out 3))
 refine bodyPost_ret (results_tc rfl _ _ gb307 25 #[.int .i64 t319,.int .i64 t320,.int .i64 t321,.string t322] (0,0) _ rfl (by (with_reducible repeat (first|refine blk_drewN ?_ _|refine blk_drew ?_|refine blk_alloc ?_ _));refine blk_put (cs:=#[.int .i64 t319,.int .i64 t320,.int .i64 t321,.string (⟨#[]⟩:ByteArray)]) ?_ 3 _ rfl;(with_reducible repeat (first|refine blk_drewN ?_ _|refine blk_drew ?_|refine blk_alloc ?_ _));refine blk_put (cs:=#[.int .i64 t319,.int .i64 t320,.int .i64 0,.string (⟨#[]⟩:ByteArray)]) ?_ 2 _ rfl;(with_reducible repeat (first|refine blk_drewN ?_ _|refine blk_drew ?_|refine blk_alloc ?_ _));refine blk_put (cs:=#[.int .i64 t319,.int .i64 0,.int .i64 0,.string (⟨#[]⟩:ByteArray)]) ?_ 1 _ rfl;(with_reducible repeat (first|refine blk_drewN ?_ _|refine blk_drew ?_|refine blk_alloc ?_ _));refine blk_put (cs:=#[.int .i64 0,.int .i64 0,.int .i64 0,.string (⟨#[]⟩:ByteArray)]) ?_ 0 _ rfl;(with_reducible repeat (first|refine blk_drewN ?_ _|refine blk_drew ?_|refine blk_alloc ?_ _));exact BK307.out) Try.underlying25 rfl (by kernel_rfl)) rfl ?_
 exact ⟨_,by first|rfl|(simp [errW_none,errW_some] <;> rfl)|(simp [*,errW_none,errW_some] <;> rfl),by (with_reducible repeat (first|apply Kd.R_alloc|apply Kd.R_drewN|apply Kd.R_drew));exact Kd.R_mono (Kd.R_far (p:=⟨gb307,3,none⟩) (Kd.R_far (p:=⟨gb307,2,none⟩) (Kd.R_far (p:=⟨gb307,1,none⟩) (Kd.R_far (p:=⟨gb307,0,none⟩) (Kd.R_mono HO315.out (fun k_ hk=>(⟨hk,hk.2⟩:_∧k_≠gb307))) (fun _ hk=>hk.2) (.int .i64 t319)) (fun _ hk=>hk.2) (.int .i64 t320)) (fun _ hk=>hk.2) (.int .i64 t321)) (fun _ hk=>hk.2) (.string t322)) (fun _ hk=>trivial),by repeat (first|(with_reducible first|exact HB.out|apply below_alloc|apply pw_below_drewN|apply below_drew1|refine below_set ?_ (IsS134.ge HI312.out)|refine below_set ?_ GE307.out)|exact HB.out)⟩
def cmp_Or_int.l0:Nat→Int→List Int→Int→Int→Option (Int)
 | 0,_,_,_,_=>none
 | k + 1,x3,x6,x7,x8=>if x8 < x7 then (if 0≤x8 then (if x8 < (x6.length:Int) then (if (rd x6 x8) = x3 then (cmp_Or_int.l0 k x3 x6 x7 (wrap64 (x8 + 1))) else (some (rd x6 x8))) else (none)) else (none)) else (some x3)
def cmp_Or_int.f (k:Nat) (l0:List Int):Option (Int):=cmp_Or_int.l0 k 0 l0 (l0.length:Int) 0
theorem cmp_Or_int.mono_l:∀ k,(∀ y0 y1 y2 y3,LeO (cmp_Or_int.l0 k y0 y1 y2 y3) (cmp_Or_int.l0 (k + 1) y0 y1 y2 y3))
 | 0=>fun _ _ _ _ r h=>by simp [cmp_Or_int.l0] at h
 | k + 1=>by
  have ih0:=cmp_Or_int.mono_l k
  ·intro y0 y1 y2 y3
   unfold cmp_Or_int.l0
   repeat' first
   | (with_reducible exact ih0 _ _ _ _)
   | (with_reducible exact LeO.refl _)
   | (with_reducible exact LeO.none _)
   | (with_reducible refine LeO.ite ?_ ?_)
   | (with_reducible refine LeO.bind ?_ (fun _=>?_))
   | exact ih0 _ _ _ _
   | exact LeO.none _
   | refine LeO.ite ?_ ?_
   | refine LeO.bind ?_ (fun _=>?_)
theorem cmp_Or_int.mono:∀ a0 k,LeO (cmp_Or_int.f k a0) (cmp_Or_int.f (k + 1) a0):=by
 intro a0 k
 have ih0:=cmp_Or_int.mono_l k
 unfold cmp_Or_int.f
 repeat' first
   | (with_reducible exact ih0 _ _ _ _)
   | (with_reducible exact LeO.refl _)
   | (with_reducible exact LeO.none _)
   | (with_reducible refine LeO.ite ?_ ?_)
   | (with_reducible refine LeO.bind ?_ (fun _=>?_))
   | exact ih0 _ _ _ _
   | exact LeO.none _
   | refine LeO.ite ?_ ?_
   | refine LeO.bind ?_ (fun _=>?_)
set_option maxHeartbeats 8000000 in
set_option maxRecDepth 100000 in
theorem cmp_Or_int.calls (k:Nat) (A0:Option Addr) (c0:Nat) (l0:List Int) (r:Int) (w:World) (hr0:Kd.C (Kd.int .i64) w A0 l0.length l0) (hc0:l0.length≤c0) (h:cmp_Or_int.f k l0 = some r) :
  Calls Try.prog 122 #[.slice A0 l0.length c0] w fun e w'=>e = .returned (.int .i64 r)∧Drawn0 w w':=by
 have HR0:=Aside0.mk hr0
 have HC0:=Aside0.mk hc0
 clear hr0 hc0
 have H:(cmp_Or_int.l0 k 0 l0 (l0.length:Int) 0) = some r:=h
 clear h
 have H':=Aside0.mk H
 clear H
 go_enter Try.func122,Try.ntmps122
 go_wp2
 go_loopg [8] k (fun kq v8 w'=>∃ (x8_1:Int),v8 = .int .i64 x8_1∧Aside0 (cmp_Or_int.l0 kq 0 l0 (l0.length:Int) x8_1 = some r)∧Aside0 (kq≤k)∧Drawn0 w w')
 case atStart=>exact ⟨(0),(by first|rfl|(simp;done)|(simp [*];done)),H',⟨Nat.le_refl _⟩,by repeat (first|exact Drawn0.refl _|apply Drawn0.step)⟩
 case round =>
  clear H'
  try clear c1
  obtain ⟨x8_1,rfl,HA,HK1,⟨m1,rfl⟩⟩:=hrel
  cases gk with
  | zero=>exact absurd HA.out (by simp [cmp_Or_int.l0])
  | succ k1 =>
   have H:=HA.out
   clear HA
   simp only [cmp_Or_int.l0] at H
   by_cases c2:x8_1 < (l0.length:Int)
   ·rw [if_pos c2] at H
    have c2b0:decide (x8_1 < (l0.length:Int)) = true:=decide_eq_true c2
    clear c2
    by_cases c3:0≤x8_1
    ·rw [if_pos c3] at H
     have c3b0:decide (0≤x8_1) = true:=decide_eq_true c3
     clear c3
     by_cases c4:x8_1 < (l0.length:Int)
     ·rw [if_pos c4] at H
      have c4b0:decide (x8_1 < (l0.length:Int)) = true:=decide_eq_true c4
      clear c4
      by_cases c5:(rd l0 x8_1) = 0
      ·rw [if_pos c5] at H
       have c5b0:((rd l0 x8_1) == 0) = true:=beq_iff_eq.mpr c5
       have c5b1:((rd l0 x8_1) != 0) = false:=bne_eq_false_iff_eq.mpr c5
       clear c5
       have H':=Aside0.mk H
       clear H
       have p326:0≤(x8_1:Int):=of_decide_eq_true (by first|(with_reducible assumption)|assumption)
       have q326:x8_1 < (l0.length:Int):=of_decide_eq_true (by first|(with_reducible assumption)|assumption)
       obtain ⟨ad326,e326,hx326_0⟩:=Kd.at_int HR0.out x8_1 p326 q326
       cases e326
       replace p326:=eq_true p326
       replace q326:=eq_true q326
       go_wp2
       go_roundg k1
       case measure=>have:=HK1.out;omega
       case rel=>exact ⟨(wrap64 (x8_1 + 1)),(by first|rfl|(simp;done)|(simp [*];done)),H',⟨by have:=HK1.out;omega⟩,by repeat (first|exact Drawn0.refl _|apply Drawn0.step)⟩
      ·rw [if_neg c5] at H
       have c5b0:((rd l0 x8_1) == 0) = false:=beq_eq_false_iff_ne.mpr c5
       have c5b1:((rd l0 x8_1) != 0) = true:=bne_iff_ne.mpr c5
       obtain rfl:=Option.some.inj H
       have p326:0≤(x8_1:Int):=of_decide_eq_true (by first|(with_reducible assumption)|assumption)
       have q326:x8_1 < (l0.length:Int):=of_decide_eq_true (by first|(with_reducible assumption)|assumption)
       obtain ⟨ad326,e326,hx326_0⟩:=Kd.at_int HR0.out x8_1 p326 q326
       cases e326
       replace p326:=eq_true p326
       replace q326:=eq_true q326
       go_wp2
       go_ret
       exact ⟨by first|rfl|(simp;done)|(simp [*];done),by repeat (first|exact Drawn0.refl _|apply Drawn0.step)⟩
     ·rw [if_neg c4] at H
      exact absurd H (by simp)
    ·rw [if_neg c3] at H
     exact absurd H (by simp)
   ·rw [if_neg c2] at H
    have c2b0:decide (x8_1 < (l0.length:Int)) = false:=decide_eq_false c2
    clear c2
    obtain rfl:=Option.some.inj H
    go_wp2
    go_ret
    exact ⟨by first|rfl|(simp;done)|(simp [*];done),by repeat (first|exact Drawn0.refl _|apply Drawn0.step)⟩
def cmp_isNaN_int64.f (a0:Int):Option (Bool):=some (a0 != a0)
set_option maxHeartbeats 8000000 in
set_option maxRecDepth 100000 in
theorem cmp_isNaN_int64.calls (a0:Int) (r:Bool) (w:World) (h:cmp_isNaN_int64.f a0 = some r) :
  Calls Try.prog 142 #[.int .i64 a0] w fun e w'=>e = .returned (.bool r)∧Drawn0 w w':=by
 have H:(some (a0 != a0)) = some r:=h
 clear h
 obtain rfl:=Option.some.inj H
 go_enter Try.func142,Try.ntmps142
 go_wp2
 go_ret
 exact ⟨by first|rfl|(simp;done)|(simp [*];done),by repeat (first|exact Drawn0.refl _|apply Drawn0.step)⟩
def cmp_Compare_int64.f (a0:Int) (a1:Int):Option (Int):=(cmp_isNaN_int64.f a0).bind fun t327=>((cmp_isNaN_int64.f a1).bind fun t328=>(if t327 = true then (if t328 = true then (some 0) else (some (-1))) else (if t328 = true then (some 1) else (if a0 < a1 then (some (-1)) else (if a0 > a1 then (some 1) else (some 0))))))
set_option maxHeartbeats 8000000 in
set_option maxRecDepth 100000 in
theorem cmp_Compare_int64.calls (a0:Int) (a1:Int) (r:Int) (w:World) (h:cmp_Compare_int64.f a0 a1 = some r) :
  Calls Try.prog 123 #[.int .i64 a0,.int .i64 a1] w fun e w'=>e = .returned (.int .i64 r)∧Drawn0 w w':=by
 have H:((cmp_isNaN_int64.f a0).bind fun t327=>((cmp_isNaN_int64.f a1).bind fun t328=>(if t327 = true then (if t328 = true then (some 0) else (some (-1))) else (if t328 = true then (some 1) else (if a0 < a1 then (some (-1)) else (if a0 > a1 then (some 1) else (some 0))))))) = some r:=h
 clear h
 replace H:=Option.bind_eq_some_iff.mp H
 obtain ⟨t327,A30,H⟩:=H
 replace H:((cmp_isNaN_int64.f a1).bind fun t328=>(if t327 = true then (if t328 = true then (some 0) else (some (-1))) else (if t328 = true then (some 1) else (if a0 < a1 then (some (-1)) else (if a0 > a1 then (some 1) else (some 0)))))) = some r:=H
 have A3:=Aside0.mk A30
 clear A30
 replace H:=Option.bind_eq_some_iff.mp H
 obtain ⟨t328,A40,H⟩:=H
 replace H:(if t327 = true then (if t328 = true then (some 0) else (some (-1))) else (if t328 = true then (some 1) else (if a0 < a1 then (some (-1)) else (if a0 > a1 then (some 1) else (some 0))))) = some r:=H
 have A4:=Aside0.mk A40
 clear A40
 by_cases c5:t327 = true
 ·subst c5
  have H1:(if t328 = true then (some 0) else (some (-1))) = some r:=by rw [if_pos rfl] at H;exact H
  clear H
  have H:=H1
  clear H1
  by_cases c6:t328 = true
  ·subst c6
   have H1:(some 0) = some r:=by rw [if_pos rfl] at H;exact H
   clear H
   have H:=H1
   clear H1
   obtain rfl:=Option.some.inj H
   go_enter Try.func123,Try.ntmps123
   go_wp2_with (first|((with_reducible refine gate_callee (f:=142) rfl ?_);refine goesL_ (some 8) rfl rfl Try.func142 (by kernel_rfl) rfl #[.int .i64 a0] rfl (by (try simp only [List.map_toArray,List.map_cons,List.map_nil]);first|done|rfl|(simp only [List.length_drop,List.length_take];rfl)) ?_;(with_reducible refine (cmp_isNaN_int64.calls a0 true _ A3.out).mono ?_);rintro e w' ⟨rfl,⟨nd,rfl⟩⟩;refine ⟨_,rfl,?_⟩)|((with_reducible refine gate_callee (f:=142) rfl ?_);refine goesL_ (some 10) rfl rfl Try.func142 (by kernel_rfl) rfl #[.int .i64 a1] rfl (by (try simp only [List.map_toArray,List.map_cons,List.map_nil]);first|done|rfl|(simp only [List.length_drop,List.length_take];rfl)) ?_;(with_reducible refine (cmp_isNaN_int64.calls a1 true _ A4.out).mono ?_);rintro e w' ⟨rfl,⟨nd,rfl⟩⟩;refine ⟨_,rfl,?_⟩))
   go_ret
   exact ⟨by first|rfl|(simp;done)|(simp [*];done),by repeat (first|exact Drawn0.refl _|apply Drawn0.step)⟩
  ·replace c6:=Bool.eq_false_iff.mpr c6
   subst c6
   have H1:(some (-1)) = some r:=by rw [if_neg (show ¬ (false = true) by decide)] at H;exact H
   clear H
   have H:=H1
   clear H1
   obtain rfl:=Option.some.inj H
   go_enter Try.func123,Try.ntmps123
   go_wp2_with (first|((with_reducible refine gate_callee (f:=142) rfl ?_);refine goesL_ (some 8) rfl rfl Try.func142 (by kernel_rfl) rfl #[.int .i64 a0] rfl (by (try simp only [List.map_toArray,List.map_cons,List.map_nil]);first|done|rfl|(simp only [List.length_drop,List.length_take];rfl)) ?_;(with_reducible refine (cmp_isNaN_int64.calls a0 true _ A3.out).mono ?_);rintro e w' ⟨rfl,⟨nd,rfl⟩⟩;refine ⟨_,rfl,?_⟩)|((with_reducible refine gate_callee (f:=142) rfl ?_);refine goesL_ (some 10) rfl rfl Try.func142 (by kernel_rfl) rfl #[.int .i64 a1] rfl (by (try simp only [List.map_toArray,List.map_cons,List.map_nil]);first|done|rfl|(simp only [List.length_drop,List.length_take];rfl)) ?_;(with_reducible refine (cmp_isNaN_int64.calls a1 false _ A4.out).mono ?_);rintro e w' ⟨rfl,⟨nd,rfl⟩⟩;refine ⟨_,rfl,?_⟩))
   go_ret
   exact ⟨by first|rfl|(simp;done)|(simp [*];done),by repeat (first|exact Drawn0.refl _|apply Drawn0.step)⟩
 ·replace c5:=Bool.eq_false_iff.mpr c5
  subst c5
  have H1:(if t328 = true then (some 1) else (if a0 < a1 then (some (-1)) else (if a0 > a1 then (some 1) else (some 0)))) = some r:=by rw [if_neg (show ¬ (false = true) by decide)] at H;exact H
  clear H
  have H:=H1
  clear H1
  by_cases c7:t328 = true
  ·subst c7
   have H1:(some 1) = some r:=by rw [if_pos rfl] at H;exact H
   clear H
   have H:=H1
   clear H1
   obtain rfl:=Option.some.inj H
   go_enter Try.func123,Try.ntmps123
   go_wp2_with (first|((with_reducible refine gate_callee (f:=142) rfl ?_);refine goesL_ (some 8) rfl rfl Try.func142 (by kernel_rfl) rfl #[.int .i64 a0] rfl (by (try simp only [List.map_toArray,List.map_cons,List.map_nil]);first|done|rfl|(simp only [List.length_drop,List.length_take];rfl)) ?_;(with_reducible refine (cmp_isNaN_int64.calls a0 false _ A3.out).mono ?_);rintro e w' ⟨rfl,⟨nd,rfl⟩⟩;refine ⟨_,rfl,?_⟩)|((with_reducible refine gate_callee (f:=142) rfl ?_);refine goesL_ (some 10) rfl rfl Try.func142 (by kernel_rfl) rfl #[.int .i64 a1] rfl (by (try simp only [List.map_toArray,List.map_cons,List.map_nil]);first|done|rfl|(simp only [List.length_drop,List.length_take];rfl)) ?_;(with_reducible refine (cmp_isNaN_int64.calls a1 true _ A4.out).mono ?_);rintro e w' ⟨rfl,⟨nd,rfl⟩⟩;refine ⟨_,rfl,?_⟩))
   go_ret
   exact ⟨by first|rfl|(simp;done)|(simp [*];done),by repeat (first|exact Drawn0.refl _|apply Drawn0.step)⟩
  ·replace c7:=Bool.eq_false_iff.mpr c7
   subst c7
   have H1:(if a0 < a1 then (some (-1)) else (if a0 > a1 then (some 1) else (some 0))) = some r:=by rw [if_neg (show ¬ (false = true) by decide)] at H;exact H
   clear H
   have H:=H1
   clear H1
   by_cases c8:a0 < a1
   ·rw [if_pos c8] at H
    have c8b0:decide (a0 < a1) = true:=decide_eq_true c8
    clear c8
    obtain rfl:=Option.some.inj H
    go_enter Try.func123,Try.ntmps123
    go_wp2_with (first|((with_reducible refine gate_callee (f:=142) rfl ?_);refine goesL_ (some 8) rfl rfl Try.func142 (by kernel_rfl) rfl #[.int .i64 a0] rfl (by (try simp only [List.map_toArray,List.map_cons,List.map_nil]);first|done|rfl|(simp only [List.length_drop,List.length_take];rfl)) ?_;(with_reducible refine (cmp_isNaN_int64.calls a0 false _ A3.out).mono ?_);rintro e w' ⟨rfl,⟨nd,rfl⟩⟩;refine ⟨_,rfl,?_⟩)|((with_reducible refine gate_callee (f:=142) rfl ?_);refine goesL_ (some 10) rfl rfl Try.func142 (by kernel_rfl) rfl #[.int .i64 a1] rfl (by (try simp only [List.map_toArray,List.map_cons,List.map_nil]);first|done|rfl|(simp only [List.length_drop,List.length_take];rfl)) ?_;(with_reducible refine (cmp_isNaN_int64.calls a1 false _ A4.out).mono ?_);rintro e w' ⟨rfl,⟨nd,rfl⟩⟩;refine ⟨_,rfl,?_⟩))
    go_ret
    exact ⟨by first|rfl|(simp;done)|(simp [*];done),by repeat (first|exact Drawn0.refl _|apply Drawn0.step)⟩
   ·rw [if_neg c8] at H
    have c8b0:decide (a0 < a1) = false:=decide_eq_false c8
    clear c8
    by_cases c9:a0 > a1
    ·rw [if_pos c9] at H
     have c9b0:decide (a1 < a0) = true:=decide_eq_true c9
     clear c9
     obtain rfl:=Option.some.inj H
     go_enter Try.func123,Try.ntmps123
     go_wp2_with (first|((with_reducible refine gate_callee (f:=142) rfl ?_);refine goesL_ (some 8) rfl rfl Try.func142 (by kernel_rfl) rfl #[.int .i64 a0] rfl (by (try simp only [List.map_toArray,List.map_cons,List.map_nil]);first|done|rfl|(simp only [List.length_drop,List.length_take];rfl)) ?_;(with_reducible refine (cmp_isNaN_int64.calls a0 false _ A3.out).mono ?_);rintro e w' ⟨rfl,⟨nd,rfl⟩⟩;refine ⟨_,rfl,?_⟩)|((with_reducible refine gate_callee (f:=142) rfl ?_);refine goesL_ (some 10) rfl rfl Try.func142 (by kernel_rfl) rfl #[.int .i64 a1] rfl (by (try simp only [List.map_toArray,List.map_cons,List.map_nil]);first|done|rfl|(simp only [List.length_drop,List.length_take];rfl)) ?_;(with_reducible refine (cmp_isNaN_int64.calls a1 false _ A4.out).mono ?_);rintro e w' ⟨rfl,⟨nd,rfl⟩⟩;refine ⟨_,rfl,?_⟩))
     go_ret
     exact ⟨by first|rfl|(simp;done)|(simp [*];done),by repeat (first|exact Drawn0.refl _|apply Drawn0.step)⟩
    ·rw [if_neg c9] at H
     have c9b0:decide (a1 < a0) = false:=decide_eq_false c9
     clear c9
     obtain rfl:=Option.some.inj H
     go_enter Try.func123,Try.ntmps123
     go_wp2_with (first|((with_reducible refine gate_callee (f:=142) rfl ?_);refine goesL_ (some 8) rfl rfl Try.func142 (by kernel_rfl) rfl #[.int .i64 a0] rfl (by (try simp only [List.map_toArray,List.map_cons,List.map_nil]);first|done|rfl|(simp only [List.length_drop,List.length_take];rfl)) ?_;(with_reducible refine (cmp_isNaN_int64.calls a0 false _ A3.out).mono ?_);rintro e w' ⟨rfl,⟨nd,rfl⟩⟩;refine ⟨_,rfl,?_⟩)|((with_reducible refine gate_callee (f:=142) rfl ?_);refine goesL_ (some 10) rfl rfl Try.func142 (by kernel_rfl) rfl #[.int .i64 a1] rfl (by (try simp only [List.map_toArray,List.map_cons,List.map_nil]);first|done|rfl|(simp only [List.length_drop,List.length_take];rfl)) ?_;(with_reducible refine (cmp_isNaN_int64.calls a1 false _ A4.out).mono ?_);rintro e w' ⟨rfl,⟨nd,rfl⟩⟩;refine ⟨_,rfl,?_⟩))
     go_ret
     exact ⟨by first|rfl|(simp;done)|(simp [*];done),by repeat (first|exact Drawn0.refl _|apply Drawn0.step)⟩
end Go.Proofs.Ytaiiikfeaokmhaa.PFnQueue
