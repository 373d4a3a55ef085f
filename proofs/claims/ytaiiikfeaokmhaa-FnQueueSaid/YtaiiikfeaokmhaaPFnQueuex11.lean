import Derived.Test.YtaiiikfeaokmhaaPFnQueuex0
import Derived.Test.YtaiiikfeaokmhaaPFnQueuex1
import Derived.Test.YtaiiikfeaokmhaaPFnQueuex2
import Derived.Test.YtaiiikfeaokmhaaPFnQueuex3
import Derived.Test.YtaiiikfeaokmhaaPFnQueuex6
import Derived.Test.YtaiiikfeaokmhaaPFnQueuex7
import Derived.Test.YtaiiikfeaokmhaaPFnQueuex10
namespace Go.Proofs.Ytaiiikfeaokmhaa.PFnQueue
open Go.RowKit Go.Proofs.YtaiiikfeaokmhaaW.PrintWords Go.Proofs.YtaiiikfeaokmhaaW.PrintLast Go.Proofs.YtaiiikfeaokmhaaW.PrintMore
attribute [local go_sem] max2_int min2_int max_two min_two max_three min_three max_four min_four   -- for this text's walks alone
set_option linter.unusedVariables false
set_option linter.unusedSimpArgs false
attribute [local go_sem high] eqA25
def spec_DrawQueueDrop.f (k:Nat) (l0:List Int):Option ((List (S25))×Int):=(spec_l01Source.f k l0).bind fun bt370=>((spec_l01Src_l03Queue.f k bt370.1 bt370.2.1 bt370.2.2.1 bt370.2.2.2).bind fun bt375=>((spec_l01Src_n.f bt370.1 bt375.2.1 bt375.2.2.1 bt375.2.2.2 4).bind fun bt381=>(some (bt375.1,bt381.1))))
set_option maxHeartbeats 8000000 in
set_option maxRecDepth 100000 in
theorem spec_DrawQueueDrop.calls (k:Nat) (A0:Option Addr) (c0:Nat) (l0:List Int) (r1:List (S25)) (r2:Int) (w:World) (hr0:Kd.C (Kd.int .u8) w A0 l0.length l0) (hc0:l0.length≤c0) (h:spec_DrawQueueDrop.f k l0 = some (r1,r2)) :
  Calls Try.prog 11 #[.slice A0 l0.length c0] w fun e w'=>∃ v0_:Value,e = .returned (.tuple #[v0_,.int .i64 r2])∧Kd.R k25 25 w' w.heap.size (fun _=>True) v0_ r1∧Below w.heap.size w w':=by
 have HR0:=Aside0.mk hr0
 have HC0:=Aside0.mk hc0
 clear hr0 hc0
 have HB:=Aside0.mk (Below.refl w.heap.size w)
 have H:((spec_l01Source.f k l0).bind fun bt370=>((spec_l01Src_l03Queue.f k bt370.1 bt370.2.1 bt370.2.2.1 bt370.2.2.2).bind fun bt375=>((spec_l01Src_n.f bt370.1 bt375.2.1 bt375.2.2.1 bt375.2.2.2 4).bind fun bt381=>(some (bt375.1,bt381.1))))) = some (r1,r2):=h
 clear h
 replace H:=Option.bind_eq_some_iff.mp H
 obtain ⟨⟨t370,t371,t372,t373⟩,A20,H⟩:=H
 replace H:((spec_l01Src_l03Queue.f k t370 t371 t372 t373).bind fun bt375=>((spec_l01Src_n.f t370 bt375.2.1 bt375.2.2.1 bt375.2.2.2 4).bind fun bt381=>(some (bt375.1,bt381.1)))) = some (r1,r2):=H
 have A2:=Aside0.mk A20
 clear A20
 replace H:=Option.bind_eq_some_iff.mp H
 obtain ⟨⟨t375,t378,t379,t380⟩,A30,H⟩:=H
 replace H:((spec_l01Src_n.f t370 t378 t379 t380 4).bind fun bt381=>(some (t375,bt381.1))) = some (r1,r2):=H
 have A3:=Aside0.mk A30
 clear A30
 replace H:=Option.bind_eq_some_iff.mp H
 obtain ⟨⟨t381,t382,t383,t384⟩,A40,H⟩:=H
 replace H:(some (t375,t381)) = some (r1,r2):=H
 have A4:=Aside0.mk A40
 clear A40
 simp only [Option.some.injEq,Prod.mk.injEq] at H
 obtain ⟨rfl,rfl⟩:=H
 go_enter Try.func11,Try.ntmps11
 go_wp2_with (first|((with_reducible refine gate_callee (f:=61) rfl ?_);refine goesL_ (some 7) rfl rfl Try.func61 (by kernel_rfl) rfl #[.slice A0 l0.length c0] rfl (by (try simp only [List.map_toArray,List.map_cons,List.map_nil]);first|done|rfl|(simp only [List.length_drop,List.length_take];rfl)) ?_;(with_reducible refine (spec_l01Source.calls k _ _ l0 t370 t371 t372 t373 w _ ?side1 ?side2 ?side3 A2.out).mono ?_);(case side1=>repeat (first|(with_reducible first|exact HB.out|apply below_alloc|apply pw_below_drewN|apply below_drew1)|exact HB.out));(case side2=>exact HR0.out);(case side3=>exact HC0.out);rintro e w5 ⟨g374,rfl,hi,hb,hb2⟩;refine ⟨_,rfl,?_⟩;have n0_:=Aside0.mk (hb);have n1_:=Aside0.mk (hi);clear HB;have HB:=n0_;have HI374:=n1_;clear n0_ n1_;(try clear hb);(try clear hb2);(try clear hk);(try clear hi))|((with_reducible refine gate_callee (f:=62) rfl ?_);refine goesL_ (some 9) rfl rfl Try.func62 (by kernel_rfl) rfl #[.pointer (some ⟨g374,0,none⟩)] rfl (by (try simp only [List.map_toArray,List.map_cons,List.map_nil]);first|done|rfl|(simp only [List.length_drop,List.length_take];rfl)) ?_;(with_reducible refine (spec_l01Src_l03Queue.calls k g374 t370 t371 t372 t373 t375 t378 t379 t380 w _ ?side1 ?side2 A3.out).mono ?_);(case side1=>repeat (first|(with_reducible first|exact HI374.out|apply IsS134.alloc|apply IsS134.drewN|apply IsS134.drew|apply IsS134.set_1|apply IsS134.set_2|apply IsS134.set_3)|exact HI374.out));(case side2=>repeat (first|(with_reducible first|exact HB.out|apply below_alloc|apply pw_below_drewN|apply below_drew1|refine below_set ?_ (IsS134.ge HI374.out))|exact HB.out));rintro e w6 ⟨v376,rfl,ho0,hi,hb,hk⟩;refine ⟨_,rfl,?_⟩;have n0_:=Aside0.mk (Kd.R_lower ho0 (below_size (by repeat (first|(with_reducible first|exact HB.out|apply below_alloc|apply pw_below_drewN|apply below_drew1|refine below_set ?_ (IsS134.ge HI374.out))|exact HB.out))));have n1_:=Aside0.mk (hb);have n2_:=Aside0.mk (hi);clear HB;clear HI374;have HO377:=n0_;have HB:=n1_;have HI374:=n2_;clear n0_ n1_ n2_;(try clear hb);(try clear hb2);(try clear hk);(try clear hi);(try clear ho0))|((with_reducible refine gate_callee (f:=70) rfl ?_);refine goesL_ (some 12) rfl rfl Try.func70 (by kernel_rfl) rfl #[.pointer (some ⟨g374,0,none⟩),.int .i64 4] rfl (by (try simp only [List.map_toArray,List.map_cons,List.map_nil]);first|done|rfl|(simp only [List.length_drop,List.length_take];rfl)) ?_;(with_reducible refine (spec_l01Src_n.calls g374 t370 t378 t379 t380 4 t381 t382 t383 t384 w _ ?side1 ?side2 A4.out).mono ?_);(case side1=>repeat (first|(with_reducible first|exact HI374.out|apply IsS134.alloc|apply IsS134.drewN|apply IsS134.drew|apply IsS134.set_1|apply IsS134.set_2|apply IsS134.set_3)|exact HI374.out));(case side2=>repeat (first|(with_reducible first|exact HB.out|apply below_alloc|apply pw_below_drewN|apply below_drew1|refine below_set ?_ (IsS134.ge HI374.out))|exact HB.out));rintro e w7 ⟨rfl,hi,hb,hk⟩;refine ⟨_,rfl,?_⟩;have n0_:=Aside0.mk (Kd.R_mono (Kd.R_keep (IsS134.apart (show IsS134 w _ g374 t370 t378 t379 t380 from by repeat (first|(with_reducible first|exact HI374.out|apply IsS134.alloc|apply IsS134.drewN|apply IsS134.drew|apply IsS134.set_1|apply IsS134.set_2|apply IsS134.set_3)|exact HI374.out)) (by (with_reducible repeat (first|apply Kd.R_alloc|apply Kd.R_drewN|apply Kd.R_drew));exact HO377.out) (by decide)) hk (fun _ h=>h.2)) (fun _ h=>h.1));have n1_:=Aside0.mk (hb);have n2_:=Aside0.mk (hi);clear HO377;clear HB;clear HI374;have HO377:=n0_;have HB:=n1_;have HI374:=n2_;clear n0_ n1_ n2_;(try clear hb);(try clear hb2);(try clear hk);(try clear hi)))
 go_ret2
 exact ⟨_,by first|rfl|(simp [errW_none,errW_some] <;> rfl)|(simp [*,errW_none,errW_some] <;> rfl),by (with_reducible repeat (first|apply Kd.R_alloc|apply Kd.R_drewN|apply Kd.R_drew));exact HO377.out,by repeat (first|(with_reducible first|exact HB.out|apply below_alloc|apply pw_below_drewN|apply below_drew1|refine below_set ?_ (IsS134.ge HI374.out))|exact HB.out)⟩
def impl_QueueDrop.p (n:Int) (x:S25):Bool:=x.f2 == n
def impl_QueueDrop.f (k:Nat) (l0:List S25) (a1:Int):Option (List S25×Int×Int×Int×ByteArray×Int):=(impl_queueCode.f k l0).bind fun t=>if t = 0 then (if l0.length≤140737488355328 then (impl_Due_69.f l0).bind fun l=>some (l.filter (fun x=>!impl_QueueDrop.p a1 x),0,0,0,⟨#[]⟩,0) else none) else some ([],0,0,0,⟨#[]⟩,t)
set_option maxHeartbeats 8000000 in
set_option maxRecDepth 100000 in
theorem impl_QueueDrop.asks (x:S25) (n:Int) (gb:Nat) (w:World) (hb:w.heap[gb]? = some (.cells #[.int .i64 n] 2 (0,0))) :
  Calls Try.prog 72 #[.agg #[.int .i64 x.f0,.int .i64 x.f1,.int .i64 x.f2,.string x.f3],.pointer (some ⟨gb,0,none⟩)] w fun e w'=>e = .returned (.bool (impl_QueueDrop.p n x))∧Below w.heap.size w w':=by
 have hue_:=Try.underlying25
 have BK:=Aside0.mk hb
 clear hb
 unfold impl_QueueDrop.p
 go_enter Try.func72,Try.ntmps72
 go_wp2_with ((with_reducible refine gate_dst (N:=2) rfl ?_);refine box_event ?hg (N:=2) ?hd (cs:=#[.int .i64 x.f0,.int .i64 x.f1,.int .i64 x.f2,.string x.f3]) (t:=25) ?hr ?_;(case hd=>rfl);(case hg=>rfl);(case hr=>first|(go_simp;done)|(go_simp;rfl));intro gc hg w8 hbox hb;have HB:=Aside0.mk hb;have h0:w8.cell? ⟨gb,0,none⟩ = some (.int .i64 n):=(blk_cell (blk_below BK.out hb) 0).trans rfl;have h2:w8.cell? ⟨gc,2,none⟩ = some (.int .i64 x.f2):=(blk_cell hbox 2).trans rfl;clear hb hbox hg)
 go_ret
 exact ⟨rfl,by repeat (first|(with_reducible first|exact HB.out|apply below_alloc|apply pw_below_drewN|apply below_drew1)|exact HB.out)⟩
set_option maxHeartbeats 8000000 in
set_option maxRecDepth 100000 in
theorem impl_QueueDrop.index (A0:Option Addr) (c0:Nat) (l0:List S25) (n:Int) (gb:Nat) (w:World) (hr0:Kd.C k25 w A0 l0.length l0) (hb:w.heap[gb]? = some (.cells #[.int .i64 n] 2 (0,0))) (hl:l0.length≤140737488355328) :
  Calls Try.prog 126 #[.slice A0 l0.length c0,.func (.func 72) #[] #[.pointer (some ⟨gb,0,none⟩)]] w fun e w'=>∃ i:Int,e = .returned (.int .i64 i)∧((i = -1∧∀ m,m < l0.length→impl_QueueDrop.p n (l0.getD m z25) = false)∨∃ j:Nat,i = (j:Int)∧j < l0.length∧impl_QueueDrop.p n (l0.getD j z25) = true∧∀ m,m < j→impl_QueueDrop.p n (l0.getD m z25) = false)∧Below w.heap.size w w':=by
 have HR0:=Aside0.mk hr0
 have BK:=Aside0.mk hb
 have HL:=Aside0.mk hl
 clear hr0 hb hl
 go_enter Try.func126,Try.ntmps126
 go_wp2
 go_loopg [5,8] l0.length (fun gg s5 s8 wr=>∃ kk:Nat,s8 = .int .i64 (kk:Int)∧Aside0 (kk≤l0.length)∧Aside0 (l0.length - kk≤gg)∧Aside0 (∀ m,m < kk→impl_QueueDrop.p n (l0.getD m z25) = false)∧Aside0 (Below w.heap.size w wr))
 case atStart=>exact ⟨0,rfl,⟨Nat.zero_le _⟩,⟨by omega⟩,⟨fun m hm=>absurd hm (Nat.not_lt_zero _)⟩,⟨Below.refl _ _⟩⟩
 case round =>
  obtain ⟨kk,rfl,K1,G1,E1,HB⟩:=hrel
  by_cases hlt:kk < l0.length
  ·have hltz:(kk:Int) < (l0.length:Int):=by omega
   obtain ⟨ad,e1,hx0,hx1,hx2,hx3⟩:=at_T25 (Kd.C_below HR0.out HB.out) (kk:Int) (by omega) hltz
   cases e1
   rw [Int.toNat_natCast] at hx0 hx1 hx2 hx3
   have hd:rd_T25 l0 (kk:Int) = l0.getD kk z25:=by simp [rd_T25]
   rw [hd] at hx0 hx1 hx2 hx3
   have BK2:=Aside0.mk (blk_below BK.out HB.out)
   have LT:=Aside0.mk hlt
   clear hd hlt
   generalize hxx:l0.getD kk z25 = x at *
   have XX:=Aside0.mk hxx
   clear hxx
   obtain ⟨b,hb⟩:∃ b,impl_QueueDrop.p n x = b:=⟨_,rfl⟩
   have PB:=Aside0.mk hb
   clear hb
   have hask:=impl_QueueDrop.asks x n gb wr BK2.out
   rw [PB.out] at hask
   have HA:=Aside0.mk hask
   clear hask
   cases b with
   | true =>
    go_wp2_with (go_at_call 72;refine HA.out.mono ?_;rintro e w' ⟨rfl,hb⟩;have HB2:=Aside0.mk (below_step HB.out hb);clear hb)
    go_ret
    exact ⟨(kk:Int),rfl,.inr ⟨kk,rfl,LT.out,by rw [XX.out];exact PB.out,E1.out⟩,HB2.out⟩
   | false =>
    go_wp2_with (go_at_call 72;refine HA.out.mono ?_;rintro e w' ⟨rfl,hb⟩;have HB2:=Aside0.mk (below_step HB.out hb);clear hb)
    go_roundg (l0.length - (kk + 1))
    case measure=>have:=G1.out;have:=LT.out;omega
    case rel =>
     refine ⟨kk + 1,?_,⟨by have:=LT.out;omega⟩,⟨Nat.le_refl _⟩,⟨fun m hm=>?_⟩,HB2⟩
     ·have:=LT.out;have:=HL.out
      first|rfl|(congr 1;omega)|(congr 1;unfold wrap64;omega)|go_num
     ·rcases Nat.lt_or_ge m kk with h|h
      ·exact E1.out m h
      ·rw [show m = kk by omega,XX.out];exact PB.out
  ·have hltz:¬ (kk:Int) < (l0.length:Int):=by omega
   have hk:kk = l0.length:=by have:=K1.out;omega
   subst hk
   go_wp2
   go_ret
   exact ⟨-1,rfl,.inl ⟨rfl,E1.out⟩,HB.out⟩
set_option maxHeartbeats 8000000 in
set_option maxRecDepth 100000 in
theorem impl_QueueDrop.deletes (v:Value) (l0:List S25) (n:Int) (gb base:Nat) (w:World) (hR:Kd.R k25 25 w base (fun _=>True) v l0) (hb:w.heap[gb]? = some (.cells #[.int .i64 n] 2 (0,0))) (hgb:gb < base) (hbase:base≤w.heap.size) (hl:l0.length≤140737488355328) :
  Calls Try.prog 71 #[v,.func (.func 72) #[] #[.pointer (some ⟨gb,0,none⟩)]] w fun e w'=>∃ v':Value,e = .returned v'∧Kd.R k25 25 w' base (fun _=>True) v' (l0.filter fun x=>!impl_QueueDrop.p n x)∧Below base w w':=by
 obtain ⟨A,c,rfl⟩:=Kd.R_slice hR
 have HR:=Aside0.mk hR
 have BK:=Aside0.mk hb
 have HL:=Aside0.mk hl
 have HG:=Aside0.mk hgb
 have HS:=Aside0.mk hbase
 have HX:=Aside0.mk (impl_QueueDrop.index A c l0 n gb w (Kd.R_reads' hR).2.2 hb hl)
 clear hR hb hl hgb hbase
 go_enter Try.func71,Try.ntmps71
 go_upto_region 2 with (go_at_call 126;refine HX.out.mono ?_;rintro e w1 ⟨i,rfl,hi,hb⟩;have HI:=Aside0.mk hi;have HB:=Aside0.mk hb;clear hi hb)
 have hi:=HI.out
 clear HI HX
 rcases hi with ⟨rfl,hall⟩|⟨j0,rfl,hj0,hp0,hlow⟩
 ·have HA:=Aside0.mk hall
  clear hall
  go_wp2
  go_ret
  refine ⟨_,rfl,?_,HB.out.mono HS.out⟩
  have e:(l0.filter fun x=>!impl_QueueDrop.p n x) = l0:=by
   rw [List.filter_eq_self]
   intro x hx
   obtain ⟨m,hm,rfl⟩:=List.getElem_of_mem hx
   have:=HA.out m hm
   simp only [List.getD,List.getElem?_eq_getElem hm,Option.getD_some] at this
   rw [this];rfl
  rw [e]
  exact Kd.R_below HR.out HB.out
 ·have hne:((j0:Int) == -1) = false:=beq_eq_false_iff_ne.2 (by omega)
  have P0:=Aside0.mk hp0
  have LW:=Aside0.mk hlow
  have LJ:=Aside0.mk hj0
  clear hp0 hlow hj0
  obtain ⟨g,cp,eo,gb5,gl5,cl5,HG5⟩:=Kd.R_form HR.out (by have:=LJ.out;omega)
  injection eo with ea en ec
  subst ea
  subst ec
  clear en gl5 HG5
  have GB:=Aside0.mk gb5
  clear gb5
  go_wp2
  go_loopg [5,6,7] l0.length (fun gg s5 s6 s7 wr=>∃ (i j:Nat) (ys:List S25),s5 = .int .i64 (i:Int)∧s6 = .int .i64 (j:Int)∧Aside0 (i < j∧j≤l0.length∧l0.length - j≤gg)∧Aside0 (ys.length = l0.length∧ys.take i = (l0.take j).filter (fun x=>!impl_QueueDrop.p n x)∧ys.drop j = l0.drop j)∧Aside0 (Kd.R k25 25 wr base (fun _=>True) (.slice (some ⟨g,0,none⟩) l0.length c) ys)∧Aside0 (wr.heap[gb]? = some (.cells #[.int .i64 n] 2 (0,0)))∧Aside0 (Below base w wr)∧Aside0 (base≤wr.heap.size))
  case atStart =>
   refine ⟨j0,j0 + 1,l0,rfl,?_,⟨by omega,by have:=LJ.out;omega,by omega⟩,⟨rfl,?_,rfl⟩,⟨Kd.R_below HR.out HB.out⟩,⟨blk_below BK.out HB.out⟩,⟨HB.out.mono HS.out⟩,⟨Nat.le_trans HS.out HB.out.size⟩⟩
   ·have:=LJ.out;have:=HL.out
    first|rfl|(congr 1;omega)|(congr 1;unfold wrap64;omega)|go_num
   ·have hj:=LJ.out
    have hp:=P0.out
    rw [List.take_add_one,List.filter_append]
    have e1:(l0.take j0).filter (fun x=>!impl_QueueDrop.p n x) = l0.take j0:=by
     rw [List.filter_eq_self]
     intro x hx
     obtain ⟨m,hm,rfl⟩:=List.getElem_of_mem hx
     have hm2:m < j0:=by rw [List.length_take] at hm;omega
     have:=LW.out m hm2
     simp only [List.getD,List.getElem?_eq_getElem (show m < l0.length by omega),Option.getD_some] at this
     rw [List.getElem_take,this];rfl
    simp only [List.getD,List.getElem?_eq_getElem hj,Option.getD_some] at hp
    rw [e1,List.getElem?_eq_getElem hj]
    simp [hp]
  case round =>
   obtain ⟨i,j,ys,rfl,rfl,IJ,YS,HR2,BK2,HB2,HS2⟩:=hrel
   clear HR BK HB HS LJ P0 LW
   have HRS:=Aside0.mk HS2.out
   by_cases hlt:j < l0.length
   ·have hltz:(j:Int) < (l0.length:Int):=by omega
    obtain ⟨ce,hcl,hM,hcc,hfr⟩:=Kd.R_elem HR2.out z25 (j:Int) (by omega) hltz
    obtain rfl:=k25_openM hM
    rw [Int.toNat_natCast] at hM hcc
    have hgl:g < wr.heap.size:=by
     obtain ⟨g',cp',eo',_,gl',_⟩:=Kd.R_form HR2.out (by have:=YS.out.1;omega)
     injection eo' with ea' _ _
     injection ea' with ea'
     injection ea' with ea'
     omega
    have GL:=Aside0.mk hgl
    have JL:=Aside0.mk hlt
    clear hcl hM hfr hgl hlt
    generalize hyx:ys.getD j z25 = x at *
    have YX:=Aside0.mk hyx
    clear hyx
    have hx0:=hcc 0 _ rfl
    have hx1:=hcc 1 _ rfl
    have hx2:=hcc 2 _ rfl
    have hx3:=hcc 3 _ rfl
    simp only [show (k25).sz = 4 from rfl,Nat.add_zero] at hx0 hx1 hx2 hx3
    clear hcc
    go_upto_region 8 with ((with_reducible refine gate_dst (N:=7) rfl ?_);refine box_event ?hg (N:=7) ?hd (cs:=#[.int .i64 0,.int .i64 0,.int .i64 0,.string ⟨#[]⟩]) (t:=25) ?hr ?_;(case hd=>rfl);(case hg=>rfl);(case hr=>first|(go_simp;done)|(go_simp;rfl));intro gc hgc w5 hbox hb;have R5:=Aside0.mk (Kd.R_below HR2.out hb);have B5:=Aside0.mk (HB2.out.trans (hb.mono HS2.out));have K5:=Aside0.mk (blk_below BK2.out hb);have S5:=Aside0.mk (Nat.le_trans HS2.out hb.size);have BC:=Aside0.mk hbox;have GC:=Aside0.mk hgc;clear HR2 HB2 BK2 HS2 hb hgc hbox;have hc0:w5.cell? ⟨gc,0,none⟩ = some (.int .i64 0):=(blk_cell BC.out 0).trans rfl;have hc1:w5.cell? ⟨gc,1,none⟩ = some (.int .i64 0):=(blk_cell BC.out 1).trans rfl;have hc2:w5.cell? ⟨gc,2,none⟩ = some (.int .i64 0):=(blk_cell BC.out 2).trans rfl;have hc3:w5.cell? ⟨gc,3,none⟩ = some (.string ⟨#[]⟩):=(blk_cell BC.out 3).trans rfl;have hfc0:=blk_frozen BC.out 0;have hfc1:=blk_frozen BC.out 1;have hfc2:=blk_frozen BC.out 2;have hfc3:=blk_frozen BC.out 3)
    have gne:gc≠g:=by have:=GC.out;have:=GL.out;omega
    have gnb:gc≠gb:=by have h1:=GC.out;have h2:=blk_lt K5.out;have h3:=HG.out;have h4:=S5.out;have h5:=HRS.out;omega
    clear hx0 hx1 hx2 hx3 hc0 hc1 hc2 hc3 hfc0 hfc1 hfc2 hfc3
    have BC9:=Aside0.mk (blk_put (cs':=#[.int .i64 x.f0,.int .i64 x.f1,.int .i64 x.f2,.string x.f3]) (blk_put (cs':=#[.int .i64 x.f0,.int .i64 x.f1,.int .i64 x.f2,.string ⟨#[]⟩]) (blk_put (cs':=#[.int .i64 x.f0,.int .i64 x.f1,.int .i64 0,.string ⟨#[]⟩]) (blk_put (cs':=#[.int .i64 x.f0,.int .i64 0,.int .i64 0,.string ⟨#[]⟩]) BC.out 0 (.int .i64 x.f0) rfl) 1 (.int .i64 x.f1) rfl) 2 (.int .i64 x.f2) rfl) 3 (.string x.f3) rfl)
    have W9:∃ w9,w9 = ((((w5.setCell { block:=gc,off:=0 } (Value.int IntKind.i64 x.f0)).setCell { block:=gc,off:=1 } (Value.int IntKind.i64 x.f1)).setCell { block:=gc,off:=2 } (Value.int IntKind.i64 x.f2)).setCell { block:=gc,off:=3 } (Value.string x.f3)):=⟨_,rfl⟩
    have far9:∀ k,k≠gc→((((w5.setCell { block:=gc,off:=0 } (Value.int IntKind.i64 x.f0)).setCell { block:=gc,off:=1 } (Value.int IntKind.i64 x.f1)).setCell { block:=gc,off:=2 } (Value.int IntKind.i64 x.f2)).setCell { block:=gc,off:=3 } (Value.string x.f3)).heap[k]? = w5.heap[k]?:=fun k hk=>by
     rw [Below.heap_setCell _ _ _ k hk,Below.heap_setCell _ _ _ k hk,Below.heap_setCell _ _ _ k hk,Below.heap_setCell _ _ _ k hk]
    have K9:=Aside0.mk ((far9 gb gnb.symm).trans K5.out)
    have gcb:base≤gc:=by have:=GC.out;have:=HRS.out;omega
    have B9:=Aside0.mk ((((B5.out.setCell (p:=⟨gc,0,none⟩) gcb (.int .i64 x.f0)).setCell (p:=⟨gc,1,none⟩) gcb (.int .i64 x.f1)).setCell (p:=⟨gc,2,none⟩) gcb (.int .i64 x.f2)).setCell (p:=⟨gc,3,none⟩) gcb (.string x.f3))
    have R9:=Aside0.mk (Kd.R_mono (ok':=fun _=>True) (Kd.R_move (Kd.R_tight rfl R5.out) (fun k hk=>by cases hk;exact far9 g gne.symm)) (fun _ _=>trivial))
    have S9:=Aside0.mk (show base≤((((w5.setCell { block:=gc,off:=0 } (Value.int IntKind.i64 x.f0)).setCell { block:=gc,off:=1 } (Value.int IntKind.i64 x.f1)).setCell { block:=gc,off:=2 } (Value.int IntKind.i64 x.f2)).setCell { block:=gc,off:=3 } (Value.string x.f3)).heap.size by simpa [World.setCell] using S5.out)
    clear W9 far9 gcb BC K5 B5 R5 S5 gnb
    generalize ((((w5.setCell { block:=gc,off:=0 } (Value.int IntKind.i64 x.f0)).setCell { block:=gc,off:=1 } (Value.int IntKind.i64 x.f1)).setCell { block:=gc,off:=2 } (Value.int IntKind.i64 x.f2)).setCell { block:=gc,off:=3 } (Value.string x.f3)) = w9 at *
    have hd0:w9.cell? ⟨gc,0,none⟩ = some (.int .i64 x.f0):=(blk_cell BC9.out 0).trans rfl
    have hd1:w9.cell? ⟨gc,1,none⟩ = some (.int .i64 x.f1):=(blk_cell BC9.out 1).trans rfl
    have hd2:w9.cell? ⟨gc,2,none⟩ = some (.int .i64 x.f2):=(blk_cell BC9.out 2).trans rfl
    have hd3:w9.cell? ⟨gc,3,none⟩ = some (.string x.f3):=(blk_cell BC9.out 3).trans rfl
    obtain ⟨b,hb⟩:∃ b,impl_QueueDrop.p n x = b:=⟨_,rfl⟩
    have PB:=Aside0.mk hb
    clear hb
    have hask:=impl_QueueDrop.asks x n gb w9 K9.out
    rw [PB.out] at hask
    have HA:=Aside0.mk hask
    clear hask
    cases b with
    | true =>
     go_wp2_with (go_at_call 72;refine HA.out.mono ?_;rintro e w' ⟨rfl,hb⟩;have R10:=Aside0.mk (Kd.R_below R9.out hb);have K10:=Aside0.mk (blk_below K9.out hb);have B10:=Aside0.mk (B9.out.trans (hb.mono S9.out));have S10:=Aside0.mk (Nat.le_trans S9.out hb.size);clear hb)
     go_roundg (l0.length - (j + 1))
     case measure=>have:=IJ.out;have:=JL.out;omega
     case rel =>
      refine ⟨i,j + 1,ys,rfl,?_,⟨by have:=IJ.out;omega,by have:=JL.out;omega,Nat.le_refl _⟩,⟨YS.out.1,?_,?_⟩,R10,K10,B10,S10⟩
      ·have:=JL.out;have:=HL.out
       first|rfl|(congr 1;omega)|(congr 1;unfold wrap64;omega)|go_num
      ·have h1:=YS.out
       have h2:=Go.Proofs.YtaiiikfeaokmhaaH.skip_step (fun x=>!impl_QueueDrop.p n x) z25 l0 ys i j JL.out h1.1 h1.2.1 h1.2.2 (by rw [YX.out,PB.out];rfl)
       exact h2.1
      ·have h1:=YS.out
       have h2:=Go.Proofs.YtaiiikfeaokmhaaH.skip_step (fun x=>!impl_QueueDrop.p n x) z25 l0 ys i j JL.out h1.1 h1.2.1 h1.2.2 (by rw [YX.out,PB.out];rfl)
       exact h2.2
    | false =>
     go_upto_region 9 with (go_at_call 72;refine HA.out.mono ?_;rintro e w10 ⟨rfl,hb⟩;have R10:=Aside0.mk (Kd.R_below R9.out hb);have K10:=Aside0.mk (blk_below K9.out hb);have BC10:=Aside0.mk (blk_below BC9.out hb);have B10:=Aside0.mk (B9.out.trans (hb.mono S9.out));have S10:=Aside0.mk (Nat.le_trans S9.out hb.size);clear hb)
     clear hd0 hd1 hd2 hd3 R9 K9 BC9 B9 S9 HA
     have hd0:w10.cell? ⟨gc,0,none⟩ = some (.int .i64 x.f0):=(blk_cell BC10.out 0).trans rfl
     have hd1:w10.cell? ⟨gc,1,none⟩ = some (.int .i64 x.f1):=(blk_cell BC10.out 1).trans rfl
     have hd2:w10.cell? ⟨gc,2,none⟩ = some (.int .i64 x.f2):=(blk_cell BC10.out 2).trans rfl
     have hd3:w10.cell? ⟨gc,3,none⟩ = some (.string x.f3):=(blk_cell BC10.out 3).trans rfl
     have hil:(i:Int) < (l0.length:Int):=by have:=IJ.out;have:=JL.out;omega
     obtain ⟨ce,hcl,hM,hcc,hfr⟩:=Kd.R_elem R10.out z25 (i:Int) (by omega) hil
     obtain rfl:=k25_openM hM
     have HP:=Kd.R_seg R10.out (i:Int) (by omega) hil (seg:=[.int .i64 x.f0,.int .i64 x.f1,.int .i64 x.f2,.string x.f3]) (j:=0) hcl hcc (show 4≤4 from by decide) (x':=x) (k25_mkM _ _ _ x) (fun _ hk=>hk)
     rw [Int.toNat_natCast] at hcc hfr HP
     have hy0:=hcc 0 _ rfl
     have hy1:=hcc 1 _ rfl
     have hy2:=hcc 2 _ rfl
     have hy3:=hcc 3 _ rfl
     have hf0:=hfr 0
     have hf1:=hfr 1
     have hf2:=hfr 2
     have hf3:=hfr 3
     simp only [show (k25).sz = 4 from rfl,Nat.add_zero] at hy0 hy1 hy2 hy3 hf0 hf1 hf2 hf3 HP
     have H1:=Aside0.mk HP.1
     clear hcl hM hcc hfr HP
     have K11:=Aside0.mk (show gb≠g from by have h1:=GB.out;have h2:=HG.out;omega)
     generalize (ys.getD i z25).f0 = q0 at *
     generalize (ys.getD i z25).f1 = q1 at *
     generalize (ys.getD i z25).f2 = q2 at *
     generalize (ys.getD i z25).f3 = q3 at *
     have B11:=Aside0.mk ((((B10.out.setCell (p:=⟨g,i * 4,none⟩) GB.out (.int .i64 x.f0)).setCell (p:=⟨g,i * 4 + 1,none⟩) GB.out (.int .i64 x.f1)).setCell (p:=⟨g,i * 4 + 2,none⟩) GB.out (.int .i64 x.f2)).setCell (p:=⟨g,i * 4 + 3,none⟩) GB.out (.string x.f3))
     have K12:=Aside0.mk (blk_far (blk_far (blk_far (blk_far K10.out (p:=⟨g,i * 4,none⟩) K11.out (.int .i64 x.f0)) (p:=⟨g,i * 4 + 1,none⟩) K11.out (.int .i64 x.f1)) (p:=⟨g,i * 4 + 2,none⟩) K11.out (.int .i64 x.f2)) (p:=⟨g,i * 4 + 3,none⟩) K11.out (.string x.f3))
     go_wp2
     go_roundg (l0.length - (j + 1))
     case measure=>have:=IJ.out;have:=JL.out;omega
     case rel =>
      have h1:=YS.out
      have h2:=Go.Proofs.YtaiiikfeaokmhaaH.keep_step (fun x=>!impl_QueueDrop.p n x) z25 l0 ys i j IJ.out.1 JL.out h1.1 h1.2.1 h1.2.2 (by rw [YX.out,PB.out];rfl)
      rw [YX.out] at h2
      refine ⟨i + 1,j + 1,ys.set i x,?_,?_,⟨by have:=IJ.out;omega,by have:=JL.out;omega,Nat.le_refl _⟩,⟨h2⟩,⟨H1.out⟩,K12,B11,⟨by simpa [World.setCell] using S10.out⟩⟩
      ·have:=JL.out;have:=HL.out;have:=IJ.out
       first|rfl|(congr 1;omega)|(congr 1;unfold wrap64;omega)|go_num
      ·have:=JL.out;have:=HL.out
       first|rfl|(congr 1;omega)|(congr 1;unfold wrap64;omega)|go_num
   ·have hltz:¬ (j:Int) < (l0.length:Int):=by omega
    have hj:j = l0.length:=by have:=IJ.out;omega
    have hij:=IJ.out.1
    subst hj
    have hil:(i:Int) < (l0.length:Int):=by omega
    have hile:(i:Int)≤(l0.length:Int):=by omega
    have hcap:l0.length≤c:=(Kd.R_reads' HR2.out).2.1
    have hic:(i:Int)≤(c:Int):=by omega
    have hilc:(l0.length:Int)≤(c:Int):=by omega
    obtain ⟨i0,hi,hz0,hz1,hz2⟩:=info_parts info25
    have hcell:∀ q,q < (l0.length - i) * 4→(wr.cell? ⟨g,i * 4 + q,none⟩).isSome = true∧wr.frozen? ⟨g,i * 4 + q,none⟩ = false:=by
     intro q hq
     obtain ⟨ce,hcl,hM,hcc,hfr⟩:=Kd.R_elem HR2.out z25 ((i + q / 4:Nat):Int) (by omega) (by omega)
     rw [Int.toNat_natCast] at hcc hfr
     have e:(i + q / 4) * 4 + q % 4 = i * 4 + q:=by omega
     have hlt:q % 4 < ce.length:=by rw [hcl];exact Nat.mod_lt _ (by decide)
     have h1:=hcc (q % 4) _ (List.getElem?_eq_getElem hlt)
     have h2:=hfr (q % 4)
     simp only [show (k25).sz = 4 from rfl,e] at h1 h2
     exact ⟨by rw [h1];rfl,h2⟩
    obtain ⟨vs,hcl⟩:=Go.Proofs.YtaiiikfeaokmhaaH.run_clear_row (P:=Try.prog) wr 23 25 i0 _ Try.underlying23 hi hz0 (by decide) g (i * 4) (l0.length - i) (c - i) (fun q hq=>(hcell q hq).1) (fun q hq=>(hcell q hq).2)
    have RC:=Aside0.mk (Go.Proofs.YtaiiikfeaokmhaaH.R_clear HR2.out i (by omega) (i * 4) vs (Nat.le_refl _))
    have YS2:=YS
    clear hcell hi hz0 hz1 hz2 hcap
    go_wp2
    go_ret
    refine ⟨_,rfl,?_,Go.Proofs.YtaiiikfeaokmhaaH.below_setCells GB.out vs _ HB2.out⟩
    have h1:=YS.out.2.1
    rw [List.take_of_length_le (Nat.le_refl _)] at h1
    have h2:=RC.out
    rw [h1] at h2
    exact h2
set_option maxHeartbeats 8000000 in
set_option maxRecDepth 100000 in
theorem impl_QueueDrop.calls (k:Nat) (A0:Option Addr) (c0:Nat) (l0:List S25) (a1:Int) (r1:List (S25)) (r2:Int) (r3:Int) (r4:Int) (r5:ByteArray) (r6:Int) (w:World) (hr0:Kd.C k25 w A0 l0.length l0) (hc0:l0.length≤c0) (h:impl_QueueDrop.f k l0 a1 = some (r1,r2,r3,r4,r5,r6)) :
  Calls Try.prog 12 #[.slice A0 l0.length c0,.int .i64 a1] w fun e w'=>∃ v0_:Value,e = .returned (.agg #[v0_,.int .i64 r2,.int .i64 r3,.int .i64 r4,.string r5,.int .i64 r6])∧Kd.R k25 25 w' w.heap.size (fun _=>True) v0_ r1∧Below w.heap.size w w':=by
 have huo_:=Try.underlying29
 have HR0:=Aside0.mk hr0
 have HC0:=Aside0.mk hc0
 clear hr0 hc0
 unfold impl_QueueDrop.f at h
 replace h:=Option.bind_eq_some_iff.mp h
 obtain ⟨t,ht,h⟩:=h
 have AT:=Aside0.mk ht
 clear ht
 by_cases ct:t = 0
 ·rw [if_pos ct] at h
  by_cases hl:l0.length≤140737488355328
  ·rw [if_pos hl] at h
   replace h:=Option.bind_eq_some_iff.mp h
   obtain ⟨l,hl2,h⟩:=h
   have hll:l = l0:=by
    unfold impl_Due_69.f at hl2
    split at hl2
    ·cases hl2;rfl
    ·cases hl2
   have HL:=Aside0.mk (show l.length≤140737488355328 by rw [hll];exact hl)
   have AL:=Aside0.mk hl2
   clear hl hl2 hll
   subst ct
   simp only [Option.some.injEq,Prod.mk.injEq] at h
   obtain ⟨rfl,rfl,rfl,rfl,rfl,rfl⟩:=h
   go_enter Try.func12,Try.ntmps12
   go_wp2_with (first|((with_reducible refine gate_dst (N:=3) rfl ?_);refine box_event ?hg (N:=3) ?hd (cs:=#[.int .i64 a1]) (t:=2) ?hr ?_;(case hd=>rfl);(case hg=>rfl);(case hr=>first|(go_simp;done)|(go_simp;rfl));intro gb hg w1 hbox hb;have HB:=Aside0.mk hb;have BX:=Aside0.mk hbox;clear hb hbox hg)|((with_reducible refine gate_dst (N:=4) rfl ?_);refine box_event ?hg (N:=4) ?hd (cs:=#[.slice none 0 0,.int .i64 0,.int .i64 0,.int .i64 0,.string ⟨#[]⟩,.int .i64 0]) (t:=29) ?hr ?_;(case hd=>rfl);(case hg=>rfl);(case hr=>first|(go_simp;done)|(go_simp;rfl));intro gr hg w2 hbox hb;have GR:=Aside0.mk (show w.heap.size≤gr by rw [hg];exact below_size HB.out);have HB2:=Aside0.mk (below_step HB.out hb);have BX2:=Aside0.mk (blk_below BX.out hb);have BK:=Aside0.mk hbox;clear HB BX hb hbox hg;have HB:=HB2;have BX:=BX2;clear HB2 BX2)|(go_at_call 64;(with_reducible refine (impl_queueCode.calls k A0 c0 l0 0 _ (Kd.C_below HR0.out HB.out) HC0.out AT.out).mono ?_);rintro e w3 ⟨rfl,hb⟩;have HB2:=Aside0.mk (below_step HB.out hb);have BX2:=Aside0.mk (blk_below BX.out hb);have BK2:=Aside0.mk (blk_below BK.out hb);clear HB BX BK hb;have HB:=HB2;have BX:=BX2;have BK:=BK2;clear HB2 BX2 BK2;have hcz0:w3.cell? ⟨gr,0,none⟩ = some (.slice none 0 0):=(blk_cell BK.out 0).trans rfl;have hcz1:w3.cell? ⟨gr,1,none⟩ = some (.int .i64 0):=(blk_cell BK.out 1).trans rfl;have hcz2:w3.cell? ⟨gr,2,none⟩ = some (.int .i64 0):=(blk_cell BK.out 2).trans rfl;have hcz3:w3.cell? ⟨gr,3,none⟩ = some (.int .i64 0):=(blk_cell BK.out 3).trans rfl;have hcz4:w3.cell? ⟨gr,4,none⟩ = some (.string ⟨#[]⟩):=(blk_cell BK.out 4).trans rfl;have hcz5:w3.cell? ⟨gr,5,none⟩ = some (.int .i64 0):=(blk_cell BK.out 5).trans rfl;have hfz0:=blk_frozen BK.out 0;have hfz1:=blk_frozen BK.out 1;have hfz2:=blk_frozen BK.out 2;have hfz3:=blk_frozen BK.out 3;have hfz4:=blk_frozen BK.out 4;have hfz5:=blk_frozen BK.out 5)|(go_at_call 69;(with_reducible refine (impl_Due_69.calls A0 c0 l0 l _ (Kd.C_below HR0.out HB.out) HC0.out AL.out).mono ?_);rintro e w4 ⟨v0,rfl,ho,hb⟩;have RV:=Aside0.mk ho;have HB4:=Aside0.mk (below_step HB.out hb);have BX4:=Aside0.mk (blk_below BX.out hb);have BK4:=Aside0.mk (blk_below BK.out hb);have BS:=Aside0.mk hb.size;have GBL:=Aside0.mk (blk_lt BX.out);have GRL:=Aside0.mk (blk_lt BK.out);have W3:=Aside0.mk (below_size HB.out);clear HB BX BK ho hb hcz0 hcz1 hcz2 hcz3 hcz4 hcz5 hfz0 hfz1 hfz2 hfz3 hfz4 hfz5)|(go_at_call 71;refine (impl_QueueDrop.deletes v0 l a1 gb w3.heap.size w4 RV.out BX4.out GBL.out BS.out HL.out).mono ?_;rintro e w5 ⟨v1,rfl,ho,hb⟩;obtain ⟨Av,cv,rfl⟩:=Kd.R_slice ho;have RD:=Aside0.mk ho;have HB5:=Aside0.mk (HB4.out.trans (hb.mono W3.out));have BK5:=Aside0.mk ((hb.block gr GRL.out).trans BK4.out);clear ho hb RV BX4 BK4;have hcz0:w5.cell? ⟨gr,0,none⟩ = some (.slice none 0 0):=(blk_cell BK5.out 0).trans rfl;have hcz1:w5.cell? ⟨gr,1,none⟩ = some (.int .i64 0):=(blk_cell BK5.out 1).trans rfl;have hcz2:w5.cell? ⟨gr,2,none⟩ = some (.int .i64 0):=(blk_cell BK5.out 2).trans rfl;have hcz3:w5.cell? ⟨gr,3,none⟩ = some (.int .i64 0):=(blk_cell BK5.out 3).trans rfl;have hcz4:w5.cell? ⟨gr,4,none⟩ = some (.string ⟨#[]⟩):=(blk_cell BK5.out 4).trans rfl;have hcz5:w5.cell? ⟨gr,5,none⟩ = some (.int .i64 0):=(blk_cell BK5.out 5).trans rfl;have hfz0:=blk_frozen BK5.out 0;have hfz1:=blk_frozen BK5.out 1;have hfz2:=blk_frozen BK5.out 2;have hfz3:=blk_frozen BK5.out 3;have hfz4:=blk_frozen BK5.out 4;have hfz5:=blk_frozen BK5.out 5))
   refine bodyPost_ret (results_cell_row rfl _ _ gr 29 #[.slice Av (l.filter (fun x=>!impl_QueueDrop.p a1 x)).length cv,.int .i64 0,.int .i64 0,.int .i64 0,.string ⟨#[]⟩,.int .i64 0] (0,0) _ rfl (by refine blk_put (cs:=#[.slice Av (l.filter (fun x=>!impl_QueueDrop.p a1 x)).length cv,.int .i64 0,.int .i64 0,.int .i64 0,.string ⟨#[]⟩,.int .i64 0]) ?_ 5 _ rfl;refine blk_put (cs:=#[.slice Av (l.filter (fun x=>!impl_QueueDrop.p a1 x)).length cv,.int .i64 0,.int .i64 0,.int .i64 0,.string ⟨#[]⟩,.int .i64 0]) ?_ 4 _ rfl;refine blk_put (cs:=#[.slice Av (l.filter (fun x=>!impl_QueueDrop.p a1 x)).length cv,.int .i64 0,.int .i64 0,.int .i64 0,.string ⟨#[]⟩,.int .i64 0]) ?_ 3 _ rfl;refine blk_put (cs:=#[.slice Av (l.filter (fun x=>!impl_QueueDrop.p a1 x)).length cv,.int .i64 0,.int .i64 0,.int .i64 0,.string ⟨#[]⟩,.int .i64 0]) ?_ 2 _ rfl;refine blk_put (cs:=#[.slice Av (l.filter (fun x=>!impl_QueueDrop.p a1 x)).length cv,.int .i64 0,.int .i64 0,.int .i64 0,.string ⟨#[]⟩,.int .i64 0]) ?_ 1 _ rfl;refine blk_put (cs:=#[.slice none 0 0,.int .i64 0,.int .i64 0,.int .i64 0,.string ⟨#[]⟩,.int .i64 0]) ?_ 0 _ rfl;exact BK5.out) Try.underlying29 rfl (by kernel_rfl)) rfl ?_
   have g3:∀ k,some k = (Value.slice Av (l.filter (fun x=>!impl_QueueDrop.p a1 x)).length cv).ownBlock→k≠gr:=fun k hk e=>by
    have h1:=Kd.R_base RD.out k hk.symm
    have h2:=GRL.out
    omega
   exact ⟨_,rfl,Kd.R_mono (Kd.R_far (p:=⟨gr,5,none⟩) (Kd.R_far (p:=⟨gr,4,none⟩) (Kd.R_far (p:=⟨gr,3,none⟩) (Kd.R_far (p:=⟨gr,2,none⟩) (Kd.R_far (p:=⟨gr,1,none⟩) (Kd.R_far (p:=⟨gr,0,none⟩) (Kd.R_tight rfl (Kd.R_lower RD.out W3.out)) g3 _) g3 _) g3 _) g3 _) g3 _) g3 _) (fun _ _=>trivial),below_set (below_set (below_set (below_set (below_set (below_set HB5.out GR.out) GR.out) GR.out) GR.out) GR.out) GR.out⟩
  ·rw [if_neg hl] at h
   cases h
 ·rw [if_neg ct] at h
  have ctb:(t != 0) = true:=bne_iff_ne.mpr ct
  have ctb2:(t == 0) = false:=beq_eq_false_iff_ne.mpr ct
  simp only [Option.some.injEq,Prod.mk.injEq] at h
  obtain ⟨rfl,rfl,rfl,rfl,rfl,rfl⟩:=h
  clear ct
  go_enter Try.func12,Try.ntmps12
  go_wp2_with (first|((with_reducible refine gate_dst (N:=3) rfl ?_);refine box_event ?hg (N:=3) ?hd (cs:=#[.int .i64 a1]) (t:=2) ?hr ?_;(case hd=>rfl);(case hg=>rfl);(case hr=>first|(go_simp;done)|(go_simp;rfl));intro gb hg w1 hbox hb;have HB:=Aside0.mk hb;have BX:=Aside0.mk hbox;clear hb hbox hg)|((with_reducible refine gate_dst (N:=4) rfl ?_);refine box_event ?hg (N:=4) ?hd (cs:=#[.slice none 0 0,.int .i64 0,.int .i64 0,.int .i64 0,.string ⟨#[]⟩,.int .i64 0]) (t:=29) ?hr ?_;(case hd=>rfl);(case hg=>rfl);(case hr=>first|(go_simp;done)|(go_simp;rfl));intro gr hg w2 hbox hb;have GR:=Aside0.mk (show w.heap.size≤gr by rw [hg];exact below_size HB.out);have HB2:=Aside0.mk (below_step HB.out hb);have BX2:=Aside0.mk (blk_below BX.out hb);have BK:=Aside0.mk hbox;clear HB BX hb hbox hg;have HB:=HB2;have BX:=BX2;clear HB2 BX2)|(go_at_call 64;(with_reducible refine (impl_queueCode.calls k A0 c0 l0 t _ (Kd.C_below HR0.out HB.out) HC0.out AT.out).mono ?_);rintro e w3 ⟨rfl,hb⟩;have HB2:=Aside0.mk (below_step HB.out hb);have BX2:=Aside0.mk (blk_below BX.out hb);have BK2:=Aside0.mk (blk_below BK.out hb);clear HB BX BK hb;have HB:=HB2;have BX:=BX2;have BK:=BK2;clear HB2 BX2 BK2;have hcz0:w3.cell? ⟨gr,0,none⟩ = some (.slice none 0 0):=(blk_cell BK.out 0).trans rfl;have hcz1:w3.cell? ⟨gr,1,none⟩ = some (.int .i64 0):=(blk_cell BK.out 1).trans rfl;have hcz2:w3.cell? ⟨gr,2,none⟩ = some (.int .i64 0):=(blk_cell BK.out 2).trans rfl;have hcz3:w3.cell? ⟨gr,3,none⟩ = some (.int .i64 0):=(blk_cell BK.out 3).trans rfl;have hcz4:w3.cell? ⟨gr,4,none⟩ = some (.string ⟨#[]⟩):=(blk_cell BK.out 4).trans rfl;have hcz5:w3.cell? ⟨gr,5,none⟩ = some (.int .i64 0):=(blk_cell BK.out 5).trans rfl;have hfz0:=blk_frozen BK.out 0;have hfz1:=blk_frozen BK.out 1;have hfz2:=blk_frozen BK.out 2;have hfz3:=blk_frozen BK.out 3;have hfz4:=blk_frozen BK.out 4;have hfz5:=blk_frozen BK.out 5))
  refine bodyPost_ret (results_cell_row rfl _ _ gr 29 #[.slice none 0 0,.int .i64 0,.int .i64 0,.int .i64 0,.string ⟨#[]⟩,.int .i64 t] (0,0) _ rfl (by refine blk_put (cs:=#[.slice none 0 0,.int .i64 0,.int .i64 0,.int .i64 0,.string ⟨#[]⟩,.int .i64 0]) ?_ 5 _ rfl;refine blk_put (cs:=#[.slice none 0 0,.int .i64 0,.int .i64 0,.int .i64 0,.string ⟨#[]⟩,.int .i64 0]) ?_ 4 _ rfl;refine blk_put (cs:=#[.slice none 0 0,.int .i64 0,.int .i64 0,.int .i64 0,.string ⟨#[]⟩,.int .i64 0]) ?_ 3 _ rfl;refine blk_put (cs:=#[.slice none 0 0,.int .i64 0,.int .i64 0,.int .i64 0,.string ⟨#[]⟩,.int .i64 0]) ?_ 2 _ rfl;refine blk_put (cs:=#[.slice none 0 0,.int .i64 0,.int .i64 0,.int .i64 0,.string ⟨#[]⟩,.int .i64 0]) ?_ 1 _ rfl;refine blk_put (cs:=#[.slice none 0 0,.int .i64 0,.int .i64 0,.int .i64 0,.string ⟨#[]⟩,.int .i64 0]) ?_ 0 _ rfl;exact BK.out) Try.underlying29 rfl (by kernel_rfl)) rfl ?_
  exact ⟨_,rfl,Kd.R_nil _ _ _ _ _,below_set (below_set (below_set (below_set (below_set (below_set HB.out GR.out) GR.out) GR.out) GR.out) GR.out) GR.out⟩
def laws_lwQueue.l0:Nat→List (S25)→List (S25)→Int→Option (Bool)
 | 0,_,_,_=>none
 | k + 1,x0,x1,x5=>if x5 < (x0.length:Int) then (if 0≤x5 then (if x5 < (x1.length:Int) then (if (!(((rd_T25 x0 x5).f0) == ((rd_T25 x1 x5).f0)) || (!(((rd_T25 x0 x5).f1) == ((rd_T25 x1 x5).f1)) || (!(((rd_T25 x0 x5).f2) == ((rd_T25 x1 x5).f2)) || (!((((rd_T25 x0 x5).f3).toList) == (((rd_T25 x1 x5).f3).toList)))))) = true then (some false) else (laws_lwQueue.l0 k x0 x1 (wrap64 (x5 + 1)))) else (none)) else (none)) else (some true)
def laws_lwQueue.f (k:Nat) (l0:List (S25)) (l1:List (S25)):Option (Bool):=if (l0.length:Int) = (l1.length:Int) then (laws_lwQueue.l0 k l0 l1 0) else (some false)
set_option maxHeartbeats 8000000 in
set_option maxRecDepth 100000 in
theorem laws_lwQueue.calls (k:Nat) (A0:Option Addr) (c0:Nat) (l0:List (S25)) (A1:Option Addr) (c1:Nat) (l1:List (S25)) (r:Bool) (w:World) (hr0:Kd.C k25 w A0 l0.length l0) (hc0:l0.length≤c0) (hr1:Kd.C k25 w A1 l1.length l1) (hc1:l1.length≤c1) (h:laws_lwQueue.f k l0 l1 = some r) :
  Calls Try.prog 19 #[.slice A0 l0.length c0,.slice A1 l1.length c1] w fun e w'=>e = .returned (.bool r)∧Drawn0 w w':=by
 have hu25:=Try.underlying25
 have HR0:=Aside0.mk hr0
 have HC0:=Aside0.mk hc0
 clear hr0 hc0
 have HR1:=Aside0.mk hr1
 have HC1:=Aside0.mk hc1
 clear hr1 hc1
 have H:(if (l0.length:Int) = (l1.length:Int) then (laws_lwQueue.l0 k l0 l1 0) else (some false)) = some r:=h
 clear h
 by_cases c3:(l0.length:Int) = (l1.length:Int)
 ·rw [if_pos c3] at H
  have c3b0:((l0.length:Int) == (l1.length:Int)) = true:=beq_iff_eq.mpr c3
  have c3b1:((l0.length:Int) != (l1.length:Int)) = false:=bne_eq_false_iff_eq.mpr c3
  have c3b2:(l0.length == l1.length) = true:=by first|simpa using c3|(simp at c3 ⊢;omega)
  clear c3
  have H':=Aside0.mk H
  clear H
  go_enter Try.func19,Try.ntmps19
  go_wp2
  repeat (go_quiet (fail);try go_wp2)
  go_loopg [5] k (fun kq v5 w'=>∃ (x5_1:Int),v5 = .int .i64 x5_1∧Aside0 (laws_lwQueue.l0 kq l0 l1 x5_1 = some r)∧Aside0 (kq≤k)∧Drawn0 w w')
  case atStart=>exact ⟨(0),(by first|rfl|(simp;done)|(simp [*];done)),H',⟨Nat.le_refl _⟩,by repeat (first|exact Drawn0.refl _|apply Drawn0.step)⟩
  case round =>
   clear H'
   try clear c1
   try clear p2
   try clear c3
   try clear c3b0
   try clear c3b1
   try clear c3b2
   obtain ⟨x5_1,rfl,HA,HK1,⟨m1,rfl⟩⟩:=hrel
   cases gk with
   | zero=>exact absurd HA.out (by simp [laws_lwQueue.l0])
   | succ k1 =>
    have H:=HA.out
    clear HA
    simp only [laws_lwQueue.l0] at H
    by_cases c4:x5_1 < (l0.length:Int)
    ·rw [if_pos c4] at H
     have c4b0:decide (x5_1 < (l0.length:Int)) = true:=decide_eq_true c4
     clear c4
     by_cases c5:0≤x5_1
     ·rw [if_pos c5] at H
      have c5b0:decide (0≤x5_1) = true:=decide_eq_true c5
      clear c5
      by_cases c6:x5_1 < (l1.length:Int)
      ·rw [if_pos c6] at H
       have c6b0:decide (x5_1 < (l1.length:Int)) = true:=decide_eq_true c6
       clear c6
       by_cases c7:(!(((rd_T25 l0 x5_1).f0) == ((rd_T25 l1 x5_1).f0)) || (!(((rd_T25 l0 x5_1).f1) == ((rd_T25 l1 x5_1).f1)) || (!(((rd_T25 l0 x5_1).f2) == ((rd_T25 l1 x5_1).f2)) || (!((((rd_T25 l0 x5_1).f3).toList) == (((rd_T25 l1 x5_1).f3).toList)))))) = true
       ·rw [if_pos c7] at H
        have c7b0:(!(((rd_T25 l0 x5_1).f0) == ((rd_T25 l1 x5_1).f0)) || (!(((rd_T25 l0 x5_1).f1) == ((rd_T25 l1 x5_1).f1)) || (!(((rd_T25 l0 x5_1).f2) == ((rd_T25 l1 x5_1).f2)) || (!((((rd_T25 l0 x5_1).f3).toList) == (((rd_T25 l1 x5_1).f3).toList)))))) = true:=c7
        clear c7
        obtain rfl:=Option.some.inj H
        have p385:0≤(x5_1:Int):=of_decide_eq_true (by first|(with_reducible assumption)|assumption)
        have q385:x5_1 < (l0.length:Int):=of_decide_eq_true (by first|(with_reducible assumption)|assumption)
        obtain ⟨ad385,e385,hx385_0,hx385_1,hx385_2,hx385_3⟩:=at_T25 HR0.out x5_1 p385 q385
        cases e385
        replace p385:=eq_true p385
        replace q385:=eq_true q385
        have p386:0≤(x5_1:Int):=of_decide_eq_true (by first|(with_reducible assumption)|assumption)
        have q386:x5_1 < (l1.length:Int):=of_decide_eq_true (by first|(with_reducible assumption)|assumption)
        obtain ⟨ad386,e386,hx386_0,hx386_1,hx386_2,hx386_3⟩:=at_T25 HR1.out x5_1 p386 q386
        cases e386
        replace p386:=eq_true p386
        replace q386:=eq_true q386
        go_wp2
        repeat (go_quiet (fail);try go_wp2)
        go_ret
        exact ⟨by first|rfl|(simp;done)|(simp [*];done),by repeat (first|exact Drawn0.refl _|apply Drawn0.step)⟩
       ·rw [if_neg c7] at H
        have c7b0:(!(((rd_T25 l0 x5_1).f0) == ((rd_T25 l1 x5_1).f0)) || (!(((rd_T25 l0 x5_1).f1) == ((rd_T25 l1 x5_1).f1)) || (!(((rd_T25 l0 x5_1).f2) == ((rd_T25 l1 x5_1).f2)) || (!((((rd_T25 l0 x5_1).f3).toList) == (((rd_T25 l1 x5_1).f3).toList)))))) = false:=by simpa using c7
        clear c7
        have H':=Aside0.mk H
        clear H
        have p385:0≤(x5_1:Int):=of_decide_eq_true (by first|(with_reducible assumption)|assumption)
        have q385:x5_1 < (l0.length:Int):=of_decide_eq_true (by first|(with_reducible assumption)|assumption)
        obtain ⟨ad385,e385,hx385_0,hx385_1,hx385_2,hx385_3⟩:=at_T25 HR0.out x5_1 p385 q385
        cases e385
        replace p385:=eq_true p385
        replace q385:=eq_true q385
        have p386:0≤(x5_1:Int):=of_decide_eq_true (by first|(with_reducible assumption)|assumption)
        have q386:x5_1 < (l1.length:Int):=of_decide_eq_true (by first|(with_reducible assumption)|assumption)
        obtain ⟨ad386,e386,hx386_0,hx386_1,hx386_2,hx386_3⟩:=at_T25 HR1.out x5_1 p386 q386
        cases e386
        replace p386:=eq_true p386
        replace q386:=eq_true q386
        go_wp2
        repeat (go_quiet (fail);try go_wp2)
        go_roundg k1
        case measure=>have:=HK1.out;omega
        case rel=>exact ⟨(wrap64 (x5_1 + 1)),(by first|rfl|(simp;done)|(simp [*];done)),H',⟨by have:=HK1.out;omega⟩,by repeat (first|exact Drawn0.refl _|apply Drawn0.step)⟩
      ·rw [if_neg c6] at H
       exact absurd H (by simp)
     ·rw [if_neg c5] at H
      exact absurd H (by simp)
    ·rw [if_neg c4] at H
     have c4b0:decide (x5_1 < (l0.length:Int)) = false:=decide_eq_false c4
     clear c4
     obtain rfl:=Option.some.inj H
     go_wp2
     repeat (go_quiet (fail);try go_wp2)
     go_ret
     exact ⟨by first|rfl|(simp;done)|(simp [*];done),by repeat (first|exact Drawn0.refl _|apply Drawn0.step)⟩
 ·rw [if_neg c3] at H
  have c3b0:((l0.length:Int) == (l1.length:Int)) = false:=beq_eq_false_iff_ne.mpr c3
  have c3b1:((l0.length:Int) != (l1.length:Int)) = true:=bne_iff_ne.mpr c3
  have c3b2:(l0.length == l1.length) = false:=by first|simpa using c3|(simp at c3 ⊢;omega)
  obtain rfl:=Option.some.inj H
  go_enter Try.func19,Try.ntmps19
  go_wp2
  repeat (go_quiet (fail);try go_wp2)
  go_ret
  exact ⟨by first|rfl|(simp;done)|(simp [*];done),by repeat (first|exact Drawn0.refl _|apply Drawn0.step)⟩
def laws_lwQueues.f (k:Nat) (l0_0:List (S25)) (a0_1:Int) (a0_2:Int) (a0_3:Int) (a0_4:ByteArray) (a0_5:Int) (l1_0:List (S25)) (a1_1:Int) (a1_2:Int) (a1_3:Int) (a1_4:ByteArray) (a1_5:Int):Option (Bool):=if a0_5 = a1_5 then (if (a0_1 == a1_1 && (a0_2 == a1_2 && (a0_3 == a1_3 && (a0_4.toList == a1_4.toList)))) = true then ((laws_lwQueue.f k l0_0 l1_0).bind fun t389=>(if t389 = true then (if a0_5 = 0 then ((spec_QueueRight.f k l0_0).bind fun t390=>(some t390)) else (some true)) else (some false))) else (some false)) else (some false)
set_option maxHeartbeats 8000000 in
set_option maxRecDepth 100000 in
theorem laws_lwQueues.calls (k:Nat) (A0_0:Option Addr) (c0_0:Nat) (l0_0:List (S25)) (a0_1:Int) (a0_2:Int) (a0_3:Int) (a0_4:ByteArray) (a0_5:Int) (A1_0:Option Addr) (c1_0:Nat) (l1_0:List (S25)) (a1_1:Int) (a1_2:Int) (a1_3:Int) (a1_4:ByteArray) (a1_5:Int) (r:Bool) (w:World) (hr0_0:Kd.C k25 w A0_0 l0_0.length l0_0) (hc0_0:l0_0.length≤c0_0) (hr1_0:Kd.C k25 w A1_0 l1_0.length l1_0) (hc1_0:l1_0.length≤c1_0) (h:laws_lwQueues.f k l0_0 a0_1 a0_2 a0_3 a0_4 a0_5 l1_0 a1_1 a1_2 a1_3 a1_4 a1_5 = some r) :
  Calls Try.prog 13 #[.agg #[.slice A0_0 l0_0.length c0_0,.int .i64 a0_1,.int .i64 a0_2,.int .i64 a0_3,.string a0_4,.int .i64 a0_5],.agg #[.slice A1_0 l1_0.length c1_0,.int .i64 a1_1,.int .i64 a1_2,.int .i64 a1_3,.string a1_4,.int .i64 a1_5]] w fun e w'=>e = .returned (.bool r)∧Below w.heap.size w w':=by
 have hu29:=Try.underlying29
 have hu25:=Try.underlying25
 have HR0_0:=Aside0.mk hr0_0
 have HC0_0:=Aside0.mk hc0_0
 clear hr0_0 hc0_0
 have HR1_0:=Aside0.mk hr1_0
 have HC1_0:=Aside0.mk hc1_0
 clear hr1_0 hc1_0
 have HB:=Aside0.mk (Below.refl w.heap.size w)
 have H:(if a0_5 = a1_5 then (if (a0_1 == a1_1 && (a0_2 == a1_2 && (a0_3 == a1_3 && (a0_4.toList == a1_4.toList)))) = true then ((laws_lwQueue.f k l0_0 l1_0).bind fun t389=>(if t389 = true then (if a0_5 = 0 then ((spec_QueueRight.f k l0_0).bind fun t390=>(some t390)) else (some true)) else (some false))) else (some false)) else (some false)) = some r:=h
 clear h
 by_cases c3:a0_5 = a1_5
 ·rw [if_pos c3] at H
  have c3b0:(a0_5 == a1_5) = true:=beq_iff_eq.mpr c3
  have c3b1:(a0_5 != a1_5) = false:=bne_eq_false_iff_eq.mpr c3
  clear c3
  by_cases c4:(a0_1 == a1_1 && (a0_2 == a1_2 && (a0_3 == a1_3 && (a0_4.toList == a1_4.toList)))) = true
  ·rw [if_pos c4] at H
   have c4b0:(a0_1 == a1_1 && (a0_2 == a1_2 && (a0_3 == a1_3 && (a0_4.toList == a1_4.toList)))) = true:=c4
   (try (have c4b1:decide (a0_1 = a1_1 && (a0_2 == a1_2 && (a0_3 == a1_3 && (a0_4.toList == a1_4.toList)))) = true:=by simpa using c4))
   (try (have c4b2:(a0_1 == a1_1 && (a0_2 == a1_2 && (a0_3 == a1_3 && (a0_4.toList == a1_4.toList)))) = true:=by simpa using c4))
   clear c4
   replace H:=Option.bind_eq_some_iff.mp H
   obtain ⟨t389,A50,H⟩:=H
   replace H:(if t389 = true then (if a0_5 = 0 then ((spec_QueueRight.f k l0_0).bind fun t390=>(some t390)) else (some true)) else (some false)) = some r:=H
   have A5:=Aside0.mk A50
   clear A50
   by_cases c6:t389 = true
   ·subst c6
    have H1:(if a0_5 = 0 then ((spec_QueueRight.f k l0_0).bind fun t390=>(some t390)) else (some true)) = some r:=by rw [if_pos rfl] at H;exact H
    clear H
    have H:=H1
    clear H1
    by_cases c7:a0_5 = 0
    ·rw [if_pos c7] at H
     have c7b0:(a0_5 == 0) = true:=beq_iff_eq.mpr c7
     have c7b1:(a0_5 != 0) = false:=bne_eq_false_iff_eq.mpr c7
     clear c7
     replace H:=Option.bind_eq_some_iff.mp H
     obtain ⟨t390,A80,H⟩:=H
     replace H:(some t390) = some r:=H
     have A8:=Aside0.mk A80
     clear A80
     obtain rfl:=Option.some.inj H
     go_enter Try.func13,Try.ntmps13
     go_wp2_with (first|((with_reducible refine gate_dst (N:=2) rfl ?_);refine box_event ?hg (N:=2) ?hd (cs:=#[.slice A0_0 l0_0.length c0_0,.int .i64 a0_1,.int .i64 a0_2,.int .i64 a0_3,.string a0_4,.int .i64 a0_5]) (t:=29) ?hr ?_;(case hd=>rfl);(case hg=>rfl);(case hr=>first|(go_simp;done)|(go_simp;rfl));intro gb387 hg w9 hbox hb;have n0_:=Aside0.mk (below_step (by repeat (first|(with_reducible first|exact HB.out|apply below_alloc|apply pw_below_drewN|apply below_drew1)|exact HB.out)) hb);have n1_:=Aside0.mk (hbox);have n2_:=Aside0.mk ((by rw [hg];exact (below_size (by repeat (first|(with_reducible first|exact HB.out|apply below_alloc|apply pw_below_drewN|apply below_drew1)|exact HB.out))):w.heap.size≤gb387));have n3_:=Aside0.mk ((by rw [hg];exact (below_size (by repeat (first|(with_reducible first|exact HB.out|apply below_alloc|apply pw_below_drewN|apply below_drew1)|exact HB.out))):w.heap.size≤gb387));clear HB;have HB:=n0_;have BK387:=n1_;have GW387:=n2_;have GE387:=n3_;clear n0_ n1_ n2_ n3_;clear hb hbox hg)|((with_reducible refine gate_dst (N:=3) rfl ?_);refine box_event ?hg (N:=3) ?hd (cs:=#[.slice A1_0 l1_0.length c1_0,.int .i64 a1_1,.int .i64 a1_2,.int .i64 a1_3,.string a1_4,.int .i64 a1_5]) (t:=29) ?hr ?_;(case hd=>rfl);(case hg=>rfl);(case hr=>first|(go_simp;done)|(go_simp;rfl));intro gb388 hg w10 hbox hb;have n0_:=Aside0.mk (blk_below (g:=gb387) (o:=.cells #[.slice A0_0 l0_0.length c0_0,.int .i64 a0_1,.int .i64 a0_2,.int .i64 a0_3,.string a0_4,.int .i64 a0_5] 29 (0,0)) (by (with_reducible repeat (first|refine blk_drewN ?_ _|refine blk_drew ?_|refine blk_alloc ?_ _));exact BK387.out) hb);have n1_:=Aside0.mk (below_step (by repeat (first|(with_reducible first|exact HB.out|apply below_alloc|apply pw_below_drewN|apply below_drew1|refine below_set ?_ GE387.out)|exact HB.out)) hb);have n2_:=Aside0.mk (hbox);have n3_:=Aside0.mk ((by rw [hg];exact (below_size (by repeat (first|(with_reducible first|exact HB.out|apply below_alloc|apply pw_below_drewN|apply below_drew1|refine below_set ?_ GE387.out)|exact HB.out))):w.heap.size≤gb388));have n4_:=Aside0.mk ((by rw [hg];exact (below_size (by repeat (first|(with_reducible first|exact HB.out|apply below_alloc|apply pw_below_drewN|apply below_drew1|refine below_set ?_ GE387.out)|exact HB.out))):w.heap.size≤gb388));have n5_:=Aside0.mk ((by rw [hg];exact Nat.ne_of_lt (blk_lt (g:=gb387) (o:=.cells #[.slice A0_0 l0_0.length c0_0,.int .i64 a0_1,.int .i64 a0_2,.int .i64 a0_3,.string a0_4,.int .i64 a0_5] 29 (0,0)) (by (with_reducible repeat (first|refine blk_drewN ?_ _|refine blk_drew ?_|refine blk_alloc ?_ _));exact BK387.out)):gb387≠gb388));have n6_:=Aside0.mk ((by rw [hg];exact Nat.ne_of_gt (blk_lt (g:=gb387) (o:=.cells #[.slice A0_0 l0_0.length c0_0,.int .i64 a0_1,.int .i64 a0_2,.int .i64 a0_3,.string a0_4,.int .i64 a0_5] 29 (0,0)) (by (with_reducible repeat (first|refine blk_drewN ?_ _|refine blk_drew ?_|refine blk_alloc ?_ _));exact BK387.out)):gb388≠gb387));clear BK387;clear HB;have BK387:=n0_;have HB:=n1_;have BK388:=n2_;have GW388:=n3_;have GE388:=n4_;have NB387_388:=n5_;have NB388_387:=n6_;clear n0_ n1_ n2_ n3_ n4_ n5_ n6_;clear hb hbox hg;have hnb11:=NB387_388.out;have hnc11:=NB388_387.out;have hcz12_0:w10.cell? ⟨gb387,0,none⟩ = some (.slice A0_0 l0_0.length c0_0):=(blk_cell BK387.out 0).trans rfl;have hcz12_1:w10.cell? ⟨gb387,1,none⟩ = some (.int .i64 a0_1):=(blk_cell BK387.out 1).trans rfl;have hcz12_2:w10.cell? ⟨gb387,2,none⟩ = some (.int .i64 a0_2):=(blk_cell BK387.out 2).trans rfl;have hcz12_3:w10.cell? ⟨gb387,3,none⟩ = some (.int .i64 a0_3):=(blk_cell BK387.out 3).trans rfl;have hcz12_4:w10.cell? ⟨gb387,4,none⟩ = some (.string a0_4):=(blk_cell BK387.out 4).trans rfl;have hcz12_5:w10.cell? ⟨gb387,5,none⟩ = some (.int .i64 a0_5):=(blk_cell BK387.out 5).trans rfl;have hfz12_0:=blk_frozen BK387.out 0;have hfz12_1:=blk_frozen BK387.out 1;have hfz12_2:=blk_frozen BK387.out 2;have hfz12_3:=blk_frozen BK387.out 3;have hfz12_4:=blk_frozen BK387.out 4;have hfz12_5:=blk_frozen BK387.out 5;have hcz13_0:w10.cell? ⟨gb388,0,none⟩ = some (.slice A1_0 l1_0.length c1_0):=(blk_cell BK388.out 0).trans rfl;have hcz13_1:w10.cell? ⟨gb388,1,none⟩ = some (.int .i64 a1_1):=(blk_cell BK388.out 1).trans rfl;have hcz13_2:w10.cell? ⟨gb388,2,none⟩ = some (.int .i64 a1_2):=(blk_cell BK388.out 2).trans rfl;have hcz13_3:w10.cell? ⟨gb388,3,none⟩ = some (.int .i64 a1_3):=(blk_cell BK388.out 3).trans rfl;have hcz13_4:w10.cell? ⟨gb388,4,none⟩ = some (.string a1_4):=(blk_cell BK388.out 4).trans rfl;have hcz13_5:w10.cell? ⟨gb388,5,none⟩ = some (.int .i64 a1_5):=(blk_cell BK388.out 5).trans rfl;have hfz13_0:=blk_frozen BK388.out 0;have hfz13_1:=blk_frozen BK388.out 1;have hfz13_2:=blk_frozen BK388.out 2;have hfz13_3:=blk_frozen BK388.out 3;have hfz13_4:=blk_frozen BK388.out 4;have hfz13_5:=blk_frozen BK388.out 5)|(go_at_call 19;(with_reducible refine (laws_lwQueue.calls k _ _ l0_0 _ _ l1_0 true _ ?side1 ?side2 ?side3 ?side4 A5.out).mono ?_);(case side1=>repeat (first|exact (Kd.C_below HR0_0.out HB.out)|(with_reducible refine Kd.C_alloc ?_ _)|(with_reducible refine Kd.C_drewN ?_ _)|(with_reducible refine Kd.C_drew ?_)));(case side2=>exact HC0_0.out);(case side3=>repeat (first|exact (Kd.C_below HR1_0.out HB.out)|(with_reducible refine Kd.C_alloc ?_ _)|(with_reducible refine Kd.C_drewN ?_ _)|(with_reducible refine Kd.C_drew ?_)));(case side4=>exact HC1_0.out);rintro e w' ⟨rfl,⟨nd,rfl⟩⟩)|(go_at_call 18;(with_reducible refine (spec_QueueRight.calls k _ _ l0_0 t390 _ ?side1 ?side2 A8.out).mono ?_);(case side1=>repeat (first|exact (Kd.C_below HR0_0.out (by repeat (first|(with_reducible first|exact HB.out|apply below_alloc|apply pw_below_drewN|apply below_drew1|refine below_set ?_ GE387.out|refine below_set ?_ GE388.out)|exact HB.out)))|(with_reducible refine Kd.C_alloc ?_ _)|(with_reducible refine Kd.C_drewN ?_ _)|(with_reducible refine Kd.C_drew ?_)));(case side2=>exact HC0_0.out);rintro e w14 ⟨rfl,hb⟩;have n0_:=Aside0.mk (blk_below (g:=gb387) (o:=.cells #[.slice A0_0 l0_0.length c0_0,.int .i64 a0_1,.int .i64 a0_2,.int .i64 a0_3,.string a0_4,.int .i64 a0_5] 29 (0,0)) (by (with_reducible repeat (first|refine blk_drewN ?_ _|refine blk_drew ?_|refine blk_alloc ?_ _));exact BK387.out) hb);have n1_:=Aside0.mk (blk_below (g:=gb388) (o:=.cells #[.slice A1_0 l1_0.length c1_0,.int .i64 a1_1,.int .i64 a1_2,.int .i64 a1_3,.string a1_4,.int .i64 a1_5] 29 (0,0)) (by (with_reducible repeat (first|refine blk_drewN ?_ _|refine blk_drew ?_|refine blk_alloc ?_ _));exact BK388.out) hb);have n2_:=Aside0.mk (below_step (by repeat (first|(with_reducible first|exact HB.out|apply below_alloc|apply pw_below_drewN|apply below_drew1|refine below_set ?_ GE387.out|refine below_set ?_ GE388.out)|exact HB.out)) hb);clear BK387;clear BK388;clear HB;have BK387:=n0_;have BK388:=n1_;have HB:=n2_;clear n0_ n1_ n2_;(try clear hb);(try clear hb2);(try clear hk);(try clear hi)))
     go_ret
     exact ⟨by first|rfl|(simp [errW_none,errW_some] <;> rfl)|(simp [*,errW_none,errW_some] <;> rfl),by repeat (first|(with_reducible first|exact HB.out|apply below_alloc|apply pw_below_drewN|apply below_drew1|refine below_set ?_ GE387.out|refine below_set ?_ GE388.out)|exact HB.out)⟩
    ·rw [if_neg c7] at H
     have c7b0:(a0_5 == 0) = false:=beq_eq_false_iff_ne.mpr c7
     have c7b1:(a0_5 != 0) = true:=bne_iff_ne.mpr c7
     obtain rfl:=Option.some.inj H
     go_enter Try.func13,Try.ntmps13
     go_wp2_with (first|((with_reducible refine gate_dst (N:=2) rfl ?_);refine box_event ?hg (N:=2) ?hd (cs:=#[.slice A0_0 l0_0.length c0_0,.int .i64 a0_1,.int .i64 a0_2,.int .i64 a0_3,.string a0_4,.int .i64 a0_5]) (t:=29) ?hr ?_;(case hd=>rfl);(case hg=>rfl);(case hr=>first|(go_simp;done)|(go_simp;rfl));intro gb387 hg w15 hbox hb;have n0_:=Aside0.mk (below_step (by repeat (first|(with_reducible first|exact HB.out|apply below_alloc|apply pw_below_drewN|apply below_drew1)|exact HB.out)) hb);have n1_:=Aside0.mk (hbox);have n2_:=Aside0.mk ((by rw [hg];exact (below_size (by repeat (first|(with_reducible first|exact HB.out|apply below_alloc|apply pw_below_drewN|apply below_drew1)|exact HB.out))):w.heap.size≤gb387));have n3_:=Aside0.mk ((by rw [hg];exact (below_size (by repeat (first|(with_reducible first|exact HB.out|apply below_alloc|apply pw_below_drewN|apply below_drew1)|exact HB.out))):w.heap.size≤gb387));clear HB;have HB:=n0_;have BK387:=n1_;have GW387:=n2_;have GE387:=n3_;clear n0_ n1_ n2_ n3_;clear hb hbox hg)|((with_reducible refine gate_dst (N:=3) rfl ?_);refine box_event ?hg (N:=3) ?hd (cs:=#[.slice A1_0 l1_0.length c1_0,.int .i64 a1_1,.int .i64 a1_2,.int .i64 a1_3,.string a1_4,.int .i64 a1_5]) (t:=29) ?hr ?_;(case hd=>rfl);(case hg=>rfl);(case hr=>first|(go_simp;done)|(go_simp;rfl));intro gb388 hg w16 hbox hb;have n0_:=Aside0.mk (blk_below (g:=gb387) (o:=.cells #[.slice A0_0 l0_0.length c0_0,.int .i64 a0_1,.int .i64 a0_2,.int .i64 a0_3,.string a0_4,.int .i64 a0_5] 29 (0,0)) (by (with_reducible repeat (first|refine blk_drewN ?_ _|refine blk_drew ?_|refine blk_alloc ?_ _));exact BK387.out) hb);have n1_:=Aside0.mk (below_step (by repeat (first|(with_reducible first|exact HB.out|apply below_alloc|apply pw_below_drewN|apply below_drew1|refine below_set ?_ GE387.out)|exact HB.out)) hb);have n2_:=Aside0.mk (hbox);have n3_:=Aside0.mk ((by rw [hg];exact (below_size (by repeat (first|(with_reducible first|exact HB.out|apply below_alloc|apply pw_below_drewN|apply below_drew1|refine below_set ?_ GE387.out)|exact HB.out))):w.heap.size≤gb388));have n4_:=Aside0.mk ((by rw [hg];exact (below_size (by repeat (first|(with_reducible first|exact HB.out|apply below_alloc|apply pw_below_drewN|apply below_drew1|refine below_set ?_ GE387.out)|exact HB.out))):w.heap.size≤gb388));have n5_:=Aside0.mk ((by rw [hg];exact Nat.ne_of_lt (blk_lt (g:=gb387) (o:=.cells #[.slice A0_0 l0_0.length c0_0,.int .i64 a0_1,.int .i64 a0_2,.int .i64 a0_3,.string a0_4,.int .i64 a0_5] 29 (0,0)) (by (with_reducible repeat (first|refine blk_drewN ?_ _|refine blk_drew ?_|refine blk_alloc ?_ _));exact BK387.out)):gb387≠gb388));have n6_:=Aside0.mk ((by rw [hg];exact Nat.ne_of_gt (blk_lt (g:=gb387) (o:=.cells #[.slice A0_0 l0_0.length c0_0,.int .i64 a0_1,.int .i64 a0_2,.int .i64 a0_3,.string a0_4,.int .i64 a0_5] 29 (0,0)) (by (with_reducible repeat (first|refine blk_drewN ?_ _|refine blk_drew ?_|refine blk_alloc ?_ _));exact BK387.out)):gb388≠gb387));clear BK387;clear HB;have BK387:=n0_;have HB:=n1_;have BK388:=n2_;have GW388:=n3_;have GE388:=n4_;have NB387_388:=n5_;have NB388_387:=n6_;clear n0_ n1_ n2_ n3_ n4_ n5_ n6_;clear hb hbox hg;have hnb17:=NB387_388.out;have hnc17:=NB388_387.out;have hcz18_0:w16.cell? ⟨gb387,0,none⟩ = some (.slice A0_0 l0_0.length c0_0):=(blk_cell BK387.out 0).trans rfl;have hcz18_1:w16.cell? ⟨gb387,1,none⟩ = some (.int .i64 a0_1):=(blk_cell BK387.out 1).trans rfl;have hcz18_2:w16.cell? ⟨gb387,2,none⟩ = some (.int .i64 a0_2):=(blk_cell BK387.out 2).trans rfl;have hcz18_3:w16.cell? ⟨gb387,3,none⟩ = some (.int .i64 a0_3):=(blk_cell BK387.out 3).trans rfl;have hcz18_4:w16.cell? ⟨gb387,4,none⟩ = some (.string a0_4):=(blk_cell BK387.out 4).trans rfl;have hcz18_5:w16.cell? ⟨gb387,5,none⟩ = some (.int .i64 a0_5):=(blk_cell BK387.out 5).trans rfl;have hfz18_0:=blk_frozen BK387.out 0;have hfz18_1:=blk_frozen BK387.out 1;have hfz18_2:=blk_frozen BK387.out 2;have hfz18_3:=blk_frozen BK387.out 3;have hfz18_4:=blk_frozen BK387.out 4;have hfz18_5:=blk_frozen BK387.out 5;have hcz19_0:w16.cell? ⟨gb388,0,none⟩ = some (.slice A1_0 l1_0.length c1_0):=(blk_cell BK388.out 0).trans rfl;have hcz19_1:w16.cell? ⟨gb388,1,none⟩ = some (.int .i64 a1_1):=(blk_cell BK388.out 1).trans rfl;have hcz19_2:w16.cell? ⟨gb388,2,none⟩ = some (.int .i64 a1_2):=(blk_cell BK388.out 2).trans rfl;have hcz19_3:w16.cell? ⟨gb388,3,none⟩ = some (.int .i64 a1_3):=(blk_cell BK388.out 3).trans rfl;have hcz19_4:w16.cell? ⟨gb388,4,none⟩ = some (.string a1_4):=(blk_cell BK388.out 4).trans rfl;have hcz19_5:w16.cell? ⟨gb388,5,none⟩ = some (.int .i64 a1_5):=(blk_cell BK388.out 5).trans rfl;have hfz19_0:=blk_frozen BK388.out 0;have hfz19_1:=blk_frozen BK388.out 1;have hfz19_2:=blk_frozen BK388.out 2;have hfz19_3:=blk_frozen BK388.out 3;have hfz19_4:=blk_frozen BK388.out 4;have hfz19_5:=blk_frozen BK388.out 5)|(go_at_call 19;(with_reducible refine (laws_lwQueue.calls k _ _ l0_0 _ _ l1_0 true _ ?side1 ?side2 ?side3 ?side4 A5.out).mono ?_);(case side1=>repeat (first|exact (Kd.C_below HR0_0.out HB.out)|(with_reducible refine Kd.C_alloc ?_ _)|(with_reducible refine Kd.C_drewN ?_ _)|(with_reducible refine Kd.C_drew ?_)));(case side2=>exact HC0_0.out);(case side3=>repeat (first|exact (Kd.C_below HR1_0.out HB.out)|(with_reducible refine Kd.C_alloc ?_ _)|(with_reducible refine Kd.C_drewN ?_ _)|(with_reducible refine Kd.C_drew ?_)));(case side4=>exact HC1_0.out);rintro e w' ⟨rfl,⟨nd,rfl⟩⟩))
     go_ret
     exact ⟨by first|rfl|(simp [errW_none,errW_some] <;> rfl)|(simp [*,errW_none,errW_some] <;> rfl),by repeat (first|(with_reducible first|exact HB.out|apply below_alloc|apply pw_below_drewN|apply below_drew1|refine below_set ?_ GE387.out|refine below_set ?_ GE388.out)|exact HB.out)⟩
   ·replace c6:=Bool.eq_false_iff.mpr c6
    subst c6
    have H1:(some false) = some r:=by rw [if_neg (show ¬ (false = true) by decide)] at H;exact H
    clear H
    have H:=H1
    clear H1
    obtain rfl:=Option.some.inj H
    go_enter Try.func13,Try.ntmps13
    go_wp2_with (first|((with_reducible refine gate_dst (N:=2) rfl ?_);refine box_event ?hg (N:=2) ?hd (cs:=#[.slice A0_0 l0_0.length c0_0,.int .i64 a0_1,.int .i64 a0_2,.int .i64 a0_3,.string a0_4,.int .i64 a0_5]) (t:=29) ?hr ?_;(case hd=>rfl);(case hg=>rfl);(case hr=>first|(go_simp;done)|(go_simp;rfl));intro gb387 hg w20 hbox hb;have n0_:=Aside0.mk (below_step (by repeat (first|(with_reducible first|exact HB.out|apply below_alloc|apply pw_below_drewN|apply below_drew1)|exact HB.out)) hb);have n1_:=Aside0.mk (hbox);have n2_:=Aside0.mk ((by rw [hg];exact (below_size (by repeat (first|(with_reducible first|exact HB.out|apply below_alloc|apply pw_below_drewN|apply below_drew1)|exact HB.out))):w.heap.size≤gb387));have n3_:=Aside0.mk ((by rw [hg];exact (below_size (by repeat (first|(with_reducible first|exact HB.out|apply below_alloc|apply pw_below_drewN|apply below_drew1)|exact HB.out))):w.heap.size≤gb387));clear HB;have HB:=n0_;have BK387:=n1_;have GW387:=n2_;have GE387:=n3_;clear n0_ n1_ n2_ n3_;clear hb hbox hg)|((with_reducible refine gate_dst (N:=3) rfl ?_);refine box_event ?hg (N:=3) ?hd (cs:=#[.slice A1_0 l1_0.length c1_0,.int .i64 a1_1,.int .i64 a1_2,.int .i64 a1_3,.string a1_4,.int .i64 a1_5]) (t:=29) ?hr ?_;(case hd=>rfl);(case hg=>rfl);(case hr=>first|(go_simp;done)|(go_simp;rfl));intro gb388 hg w21 hbox hb;have n0_:=Aside0.mk (blk_below (g:=gb387) (o:=.cells #[.slice A0_0 l0_0.length c0_0,.int .i64 a0_1,.int .i64 a0_2,.int .i64 a0_3,.string a0_4,.int .i64 a0_5] 29 (0,0)) (by (with_reducible repeat (first|refine blk_drewN ?_ _|refine blk_drew ?_|refine blk_alloc ?_ _));exact BK387.out) hb);have n1_:=Aside0.mk (below_step (by repeat (first|(with_reducible first|exact HB.out|apply below_alloc|apply pw_below_drewN|apply below_drew1|refine below_set ?_ GE387.out)|exact HB.out)) hb);have n2_:=Aside0.mk (hbox);have n3_:=Aside0.mk ((by rw [hg];exact (below_size (by repeat (first|(with_reducible first|exact HB.out|apply below_alloc|apply pw_below_drewN|apply below_drew1|refine below_set ?_ GE387.out)|exact HB.out))):w.heap.size≤gb388));have n4_:=Aside0.mk ((by rw [hg];exact (below_size (by repeat (first|(with_reducible first|exact HB.out|apply below_alloc|apply pw_below_drewN|apply below_drew1|refine below_set ?_ GE387.out)|exact HB.out))):w.heap.size≤gb388));have n5_:=Aside0.mk ((by rw [hg];exact Nat.ne_of_lt (blk_lt (g:=gb387) (o:=.cells #[.slice A0_0 l0_0.length c0_0,.int .i64 a0_1,.int .i64 a0_2,.int .i64 a0_3,.string a0_4,.int .i64 a0_5] 29 (0,0)) (by (with_reducible repeat (first|refine blk_drewN ?_ _|refine blk_drew ?_|refine blk_alloc ?_ _));exact BK387.out)):gb387≠gb388));have n6_:=Aside0.mk ((by rw [hg];exact Nat.ne_of_gt (blk_lt (g:=gb387) (o:=.cells #[.slice A0_0 l0_0.length c0_0,.int .i64 a0_1,.int .i64 a0_2,.int .i64 a0_3,.string a0_4,.int .i64 a0_5] 29 (0,0)) (by (with_reducible repeat (first|refine blk_drewN ?_ _|refine blk_drew ?_|refine blk_alloc ?_ _));exact BK387.out)):gb388≠gb387));clear BK387;clear HB;have BK387:=n0_;have HB:=n1_;have BK388:=n2_;have GW388:=n3_;have GE388:=n4_;have NB387_388:=n5_;have NB388_387:=n6_;clear n0_ n1_ n2_ n3_ n4_ n5_ n6_;clear hb hbox hg;have hnb22:=NB387_388.out;have hnc22:=NB388_387.out;have hcz23_0:w21.cell? ⟨gb387,0,none⟩ = some (.slice A0_0 l0_0.length c0_0):=(blk_cell BK387.out 0).trans rfl;have hcz23_1:w21.cell? ⟨gb387,1,none⟩ = some (.int .i64 a0_1):=(blk_cell BK387.out 1).trans rfl;have hcz23_2:w21.cell? ⟨gb387,2,none⟩ = some (.int .i64 a0_2):=(blk_cell BK387.out 2).trans rfl;have hcz23_3:w21.cell? ⟨gb387,3,none⟩ = some (.int .i64 a0_3):=(blk_cell BK387.out 3).trans rfl;have hcz23_4:w21.cell? ⟨gb387,4,none⟩ = some (.string a0_4):=(blk_cell BK387.out 4).trans rfl;have hcz23_5:w21.cell? ⟨gb387,5,none⟩ = some (.int .i64 a0_5):=(blk_cell BK387.out 5).trans rfl;have hfz23_0:=blk_frozen BK387.out 0;have hfz23_1:=blk_frozen BK387.out 1;have hfz23_2:=blk_frozen BK387.out 2;have hfz23_3:=blk_frozen BK387.out 3;have hfz23_4:=blk_frozen BK387.out 4;have hfz23_5:=blk_frozen BK387.out 5;have hcz24_0:w21.cell? ⟨gb388,0,none⟩ = some (.slice A1_0 l1_0.length c1_0):=(blk_cell BK388.out 0).trans rfl;have hcz24_1:w21.cell? ⟨gb388,1,none⟩ = some (.int .i64 a1_1):=(blk_cell BK388.out 1).trans rfl;have hcz24_2:w21.cell? ⟨gb388,2,none⟩ = some (.int .i64 a1_2):=(blk_cell BK388.out 2).trans rfl;have hcz24_3:w21.cell? ⟨gb388,3,none⟩ = some (.int .i64 a1_3):=(blk_cell BK388.out 3).trans rfl;have hcz24_4:w21.cell? ⟨gb388,4,none⟩ = some (.string a1_4):=(blk_cell BK388.out 4).trans rfl;have hcz24_5:w21.cell? ⟨gb388,5,none⟩ = some (.int .i64 a1_5):=(blk_cell BK388.out 5).trans rfl;have hfz24_0:=blk_frozen BK388.out 0;have hfz24_1:=blk_frozen BK388.out 1;have hfz24_2:=blk_frozen BK388.out 2;have hfz24_3:=blk_frozen BK388.out 3;have hfz24_4:=blk_frozen BK388.out 4;have hfz24_5:=blk_frozen BK388.out 5)|(go_at_call 19;(with_reducible refine (laws_lwQueue.calls k _ _ l0_0 _ _ l1_0 false _ ?side1 ?side2 ?side3 ?side4 A5.out).mono ?_);(case side1=>repeat (first|exact (Kd.C_below HR0_0.out HB.out)|(with_reducible refine Kd.C_alloc ?_ _)|(with_reducible refine Kd.C_drewN ?_ _)|(with_reducible refine Kd.C_drew ?_)));(case side2=>exact HC0_0.out);(case side3=>repeat (first|exact (Kd.C_below HR1_0.out HB.out)|(with_reducible refine Kd.C_alloc ?_ _)|(with_reducible refine Kd.C_drewN ?_ _)|(with_reducible refine Kd.C_drew ?_)));(case side4=>exact HC1_0.out);rintro e w' ⟨rfl,⟨nd,rfl⟩⟩))
    go_ret
    exact ⟨by first|rfl|(simp [errW_none,errW_some] <;> rfl)|(simp [*,errW_none,errW_some] <;> rfl),by repeat (first|(with_reducible first|exact HB.out|apply below_alloc|apply pw_below_drewN|apply below_drew1|refine below_set ?_ GE387.out|refine below_set ?_ GE388.out)|exact HB.out)⟩
  ·rw [if_neg c4] at H
   have c4b0:(a0_1 == a1_1 && (a0_2 == a1_2 && (a0_3 == a1_3 && (a0_4.toList == a1_4.toList)))) = false:=by simpa using c4
   (try (have c4b1:decide (a0_1 = a1_1 && (a0_2 == a1_2 && (a0_3 == a1_3 && (a0_4.toList == a1_4.toList)))) = false:=by simpa using c4))
   (try (have c4b2:(a0_1 == a1_1 && (a0_2 == a1_2 && (a0_3 == a1_3 && (a0_4.toList == a1_4.toList)))) = false:=by simpa using c4))
   (try (have c4b3:¬ (a0_1 = a1_1 && (a0_2 == a1_2 && (a0_3 == a1_3 && (a0_4.toList == a1_4.toList)))):=by simpa using c4))
   clear c4
   obtain rfl:=Option.some.inj H
   go_enter Try.func13,Try.ntmps13
   go_wp2_with (first|((with_reducible refine gate_dst (N:=2) rfl ?_);refine box_event ?hg (N:=2) ?hd (cs:=#[.slice A0_0 l0_0.length c0_0,.int .i64 a0_1,.int .i64 a0_2,.int .i64 a0_3,.string a0_4,.int .i64 a0_5]) (t:=29) ?hr ?_;(case hd=>rfl);(case hg=>rfl);(case hr=>first|(go_simp;done)|(go_simp;rfl));intro gb387 hg w25 hbox hb;have n0_:=Aside0.mk (below_step (by repeat (first|(with_reducible first|exact HB.out|apply below_alloc|apply pw_below_drewN|apply below_drew1)|exact HB.out)) hb);have n1_:=Aside0.mk (hbox);have n2_:=Aside0.mk ((by rw [hg];exact (below_size (by repeat (first|(with_reducible first|exact HB.out|apply below_alloc|apply pw_below_drewN|apply below_drew1)|exact HB.out))):w.heap.size≤gb387));have n3_:=Aside0.mk ((by rw [hg];exact (below_size (by repeat (first|(with_reducible first|exact HB.out|apply below_alloc|apply pw_below_drewN|apply below_drew1)|exact HB.out))):w.heap.size≤gb387));clear HB;have HB:=n0_;have BK387:=n1_;have GW387:=n2_;have GE387:=n3_;clear n0_ n1_ n2_ n3_;clear hb hbox hg)|((with_reducible refine gate_dst (N:=3) rfl ?_);refine box_event ?hg (N:=3) ?hd (cs:=#[.slice A1_0 l1_0.length c1_0,.int .i64 a1_1,.int .i64 a1_2,.int .i64 a1_3,.string a1_4,.int .i64 a1_5]) (t:=29) ?hr ?_;(case hd=>rfl);(case hg=>rfl);(case hr=>first|(go_simp;done)|(go_simp;rfl));intro gb388 hg w26 hbox hb;have n0_:=Aside0.mk (blk_below (g:=gb387) (o:=.cells #[.slice A0_0 l0_0.length c0_0,.int .i64 a0_1,.int .i64 a0_2,.int .i64 a0_3,.string a0_4,.int .i64 a0_5] 29 (0,0)) (by (with_reducible repeat (first|refine blk_drewN ?_ _|refine blk_drew ?_|refine blk_alloc ?_ _));exact BK387.out) hb);have n1_:=Aside0.mk (below_step (by repeat (first|(with_reducible first|exact HB.out|apply below_alloc|apply pw_below_drewN|apply below_drew1|refine below_set ?_ GE387.out)|exact HB.out)) hb);have n2_:=Aside0.mk (hbox);have n3_:=Aside0.mk ((by rw [hg];exact (below_size (by repeat (first|(with_reducible first|exact HB.out|apply below_alloc|apply pw_below_drewN|apply below_drew1|refine below_set ?_ GE387.out)|exact HB.out))):w.heap.size≤gb388));have n4_:=Aside0.mk ((by rw [hg];exact (below_size (by repeat (first|(with_reducible first|exact HB.out|apply below_alloc|apply pw_below_drewN|apply below_drew1|refine below_set ?_ GE387.out)|exact HB.out))):w.heap.size≤gb388));have n5_:=Aside0.mk ((by rw [hg];exact Nat.ne_of_lt (blk_lt (g:=gb387) (o:=.cells #[.slice A0_0 l0_0.length c0_0,.int .i64 a0_1,.int .i64 a0_2,.int .i64 a0_3,.string a0_4,.int .i64 a0_5] 29 (0,0)) (by (with_reducible repeat (first|refine blk_drewN ?_ _|refine blk_drew ?_|refine blk_alloc ?_ _));exact BK387.out)):gb387≠gb388));have n6_:=Aside0.mk ((by rw [hg];exact Nat.ne_of_gt (blk_lt (g:=gb387) (o:=.cells #[.slice A0_0 l0_0.length c0_0,.int .i64 a0_1,.int .i64 a0_2,.int .i64 a0_3,.string a0_4,.int .i64 a0_5] 29 (0,0)) (by (with_reducible repeat (first|refine blk_drewN ?_ _|refine blk_drew ?_|refine blk_alloc ?_ _));exact BK387.out)):gb388≠gb387));clear BK387;clear HB;have BK387:=n0_;have HB:=n1_;have BK388:=n2_;have GW388:=n3_;have GE388:=n4_;have NB387_388:=n5_;have NB388_387:=n6_;clear n0_ n1_ n2_ n3_ n4_ n5_ n6_;clear hb hbox hg;have hnb27:=NB387_388.out;have hnc27:=NB388_387.out;have hcz28_0:w26.cell? ⟨gb387,0,none⟩ = some (.slice A0_0 l0_0.length c0_0):=(blk_cell BK387.out 0).trans rfl;have hcz28_1:w26.cell? ⟨gb387,1,none⟩ = some (.int .i64 a0_1):=(blk_cell BK387.out 1).trans rfl;have hcz28_2:w26.cell? ⟨gb387,2,none⟩ = some (.int .i64 a0_2):=(blk_cell BK387.out 2).trans rfl;have hcz28_3:w26.cell? ⟨gb387,3,none⟩ = some (.int .i64 a0_3):=(blk_cell BK387.out 3).trans rfl;have hcz28_4:w26.cell? ⟨gb387,4,none⟩ = some (.string a0_4):=(blk_cell BK387.out 4).trans rfl;have hcz28_5:w26.cell? ⟨gb387,5,none⟩ = some (.int .i64 a0_5):=(blk_cell BK387.out 5).trans rfl;have hfz28_0:=blk_frozen BK387.out 0;have hfz28_1:=blk_frozen BK387.out 1;have hfz28_2:=blk_frozen BK387.out 2;have hfz28_3:=blk_frozen BK387.out 3;have hfz28_4:=blk_frozen BK387.out 4;have hfz28_5:=blk_frozen BK387.out 5;have hcz29_0:w26.cell? ⟨gb388,0,none⟩ = some (.slice A1_0 l1_0.length c1_0):=(blk_cell BK388.out 0).trans rfl;have hcz29_1:w26.cell? ⟨gb388,1,none⟩ = some (.int .i64 a1_1):=(blk_cell BK388.out 1).trans rfl;have hcz29_2:w26.cell? ⟨gb388,2,none⟩ = some (.int .i64 a1_2):=(blk_cell BK388.out 2).trans rfl;have hcz29_3:w26.cell? ⟨gb388,3,none⟩ = some (.int .i64 a1_3):=(blk_cell BK388.out 3).trans rfl;have hcz29_4:w26.cell? ⟨gb388,4,none⟩ = some (.string a1_4):=(blk_cell BK388.out 4).trans rfl;have hcz29_5:w26.cell? ⟨gb388,5,none⟩ = some (.int .i64 a1_5):=(blk_cell BK388.out 5).trans rfl;have hfz29_0:=blk_frozen BK388.out 0;have hfz29_1:=blk_frozen BK388.out 1;have hfz29_2:=blk_frozen BK388.out 2;have hfz29_3:=blk_frozen BK388.out 3;have hfz29_4:=blk_frozen BK388.out 4;have hfz29_5:=blk_frozen BK388.out 5))
   go_ret
   exact ⟨by first|rfl|(simp [errW_none,errW_some] <;> rfl)|(simp [*,errW_none,errW_some] <;> rfl),by repeat (first|(with_reducible first|exact HB.out|apply below_alloc|apply pw_below_drewN|apply below_drew1|refine below_set ?_ GE387.out|refine below_set ?_ GE388.out)|exact HB.out)⟩
 ·rw [if_neg c3] at H
  have c3b0:(a0_5 == a1_5) = false:=beq_eq_false_iff_ne.mpr c3
  have c3b1:(a0_5 != a1_5) = true:=bne_iff_ne.mpr c3
  obtain rfl:=Option.some.inj H
  go_enter Try.func13,Try.ntmps13
  go_wp2_with (first|((with_reducible refine gate_dst (N:=2) rfl ?_);refine box_event ?hg (N:=2) ?hd (cs:=#[.slice A0_0 l0_0.length c0_0,.int .i64 a0_1,.int .i64 a0_2,.int .i64 a0_3,.string a0_4,.int .i64 a0_5]) (t:=29) ?hr ?_;(case hd=>rfl);(case hg=>rfl);(case hr=>first|(go_simp;done)|(go_simp;rfl));intro gb387 hg w30 hbox hb;have n0_:=Aside0.mk (below_step (by repeat (first|(with_reducible first|exact HB.out|apply below_alloc|apply pw_below_drewN|apply below_drew1)|exact HB.out)) hb);have n1_:=Aside0.mk (hbox);have n2_:=Aside0.mk ((by rw [hg];exact (below_size (by repeat (first|(with_reducible first|exact HB.out|apply below_alloc|apply pw_below_drewN|apply below_drew1)|exact HB.out))):w.heap.size≤gb387));have n3_:=Aside0.mk ((by rw [hg];exact (below_size (by repeat (first|(with_reducible first|exact HB.out|apply below_alloc|apply pw_below_drewN|apply below_drew1)|exact HB.out))):w.heap.size≤gb387));clear HB;have HB:=n0_;have BK387:=n1_;have GW387:=n2_;have GE387:=n3_;clear n0_ n1_ n2_ n3_;clear hb hbox hg)|((with_reducible refine gate_dst (N:=3) rfl ?_);refine box_event ?hg (N:=3) ?hd (cs:=#[.slice A1_0 l1_0.length c1_0,.int .i64 a1_1,.int .i64 a1_2,.int .i64 a1_3,.string a1_4,.int .i64 a1_5]) (t:=29) ?hr ?_;(case hd=>rfl);(case hg=>rfl);(case hr=>first|(go_simp;done)|(go_simp;rfl));intro gb388 hg w31 hbox hb;have n0_:=Aside0.mk (blk_below (g:=gb387) (o:=.cells #[.slice A0_0 l0_0.length c0_0,.int .i64 a0_1,.int .i64 a0_2,.int .i64 a0_3,.string a0_4,.int .i64 a0_5] 29 (0,0)) (by (with_reducible repeat (first|refine blk_drewN ?_ _|refine blk_drew ?_|refine blk_alloc ?_ _));exact BK387.out) hb);have n1_:=Aside0.mk (below_step (by repeat (first|(with_reducible first|exact HB.out|apply below_alloc|apply pw_below_drewN|apply below_drew1|refine below_set ?_ GE387.out)|exact HB.out)) hb);have n2_:=Aside0.mk (hbox);have n3_:=Aside0.mk ((by rw [hg];exact (below_size (by repeat (first|(with_reducible first|exact HB.out|apply below_alloc|apply pw_below_drewN|apply below_drew1|refine below_set ?_ GE387.out)|exact HB.out))):w.heap.size≤gb388));have n4_:=Aside0.mk ((by rw [hg];exact (below_size (by repeat (first|(with_reducible first|exact HB.out|apply below_alloc|apply pw_below_drewN|apply below_drew1|refine below_set ?_ GE387.out)|exact HB.out))):w.heap.size≤gb388));have n5_:=Aside0.mk ((by rw [hg];exact Nat.ne_of_lt (blk_lt (g:=gb387) (o:=.cells #[.slice A0_0 l0_0.length c0_0,.int .i64 a0_1,.int .i64 a0_2,.int .i64 a0_3,.string a0_4,.int .i64 a0_5] 29 (0,0)) (by (with_reducible repeat (first|refine blk_drewN ?_ _|refine blk_drew ?_|refine blk_alloc ?_ _));exact BK387.out)):gb387≠gb388));have n6_:=Aside0.mk ((by rw [hg];exact Nat.ne_of_gt (blk_lt (g:=gb387) (o:=.cells #[.slice A0_0 l0_0.length c0_0,.int .i64 a0_1,.int .i64 a0_2,.int .i64 a0_3,.string a0_4,.int .i64 a0_5] 29 (0,0)) (by (with_reducible repeat (first|refine blk_drewN ?_ _|refine blk_drew ?_|refine blk_alloc ?_ _));exact BK387.out)):gb388≠gb387));clear BK387;clear HB;have BK387:=n0_;have HB:=n1_;have BK388:=n2_;have GW388:=n3_;have GE388:=n4_;have NB387_388:=n5_;have NB388_387:=n6_;clear n0_ n1_ n2_ n3_ n4_ n5_ n6_;clear hb hbox hg;have hnb32:=NB387_388.out;have hnc32:=NB388_387.out;have hcz33_0:w31.cell? ⟨gb387,0,none⟩ = some (.slice A0_0 l0_0.length c0_0):=(blk_cell BK387.out 0).trans rfl;have hcz33_1:w31.cell? ⟨gb387,1,none⟩ = some (.int .i64 a0_1):=(blk_cell BK387.out 1).trans rfl;have hcz33_2:w31.cell? ⟨gb387,2,none⟩ = some (.int .i64 a0_2):=(blk_cell BK387.out 2).trans rfl;have hcz33_3:w31.cell? ⟨gb387,3,none⟩ = some (.int .i64 a0_3):=(blk_cell BK387.out 3).trans rfl;have hcz33_4:w31.cell? ⟨gb387,4,none⟩ = some (.string a0_4):=(blk_cell BK387.out 4).trans rfl;have hcz33_5:w31.cell? ⟨gb387,5,none⟩ = some (.int .i64 a0_5):=(blk_cell BK387.out 5).trans rfl;have hfz33_0:=blk_frozen BK387.out 0;have hfz33_1:=blk_frozen BK387.out 1;have hfz33_2:=blk_frozen BK387.out 2;have hfz33_3:=blk_frozen BK387.out 3;have hfz33_4:=blk_frozen BK387.out 4;have hfz33_5:=blk_frozen BK387.out 5;have hcz34_0:w31.cell? ⟨gb388,0,none⟩ = some (.slice A1_0 l1_0.length c1_0):=(blk_cell BK388.out 0).trans rfl;have hcz34_1:w31.cell? ⟨gb388,1,none⟩ = some (.int .i64 a1_1):=(blk_cell BK388.out 1).trans rfl;have hcz34_2:w31.cell? ⟨gb388,2,none⟩ = some (.int .i64 a1_2):=(blk_cell BK388.out 2).trans rfl;have hcz34_3:w31.cell? ⟨gb388,3,none⟩ = some (.int .i64 a1_3):=(blk_cell BK388.out 3).trans rfl;have hcz34_4:w31.cell? ⟨gb388,4,none⟩ = some (.string a1_4):=(blk_cell BK388.out 4).trans rfl;have hcz34_5:w31.cell? ⟨gb388,5,none⟩ = some (.int .i64 a1_5):=(blk_cell BK388.out 5).trans rfl;have hfz34_0:=blk_frozen BK388.out 0;have hfz34_1:=blk_frozen BK388.out 1;have hfz34_2:=blk_frozen BK388.out 2;have hfz34_3:=blk_frozen BK388.out 3;have hfz34_4:=blk_frozen BK388.out 4;have hfz34_5:=blk_frozen BK388.out 5))
  go_ret
  exact ⟨by first|rfl|(simp [errW_none,errW_some] <;> rfl)|(simp [*,errW_none,errW_some] <;> rfl),by repeat (first|(with_reducible first|exact HB.out|apply below_alloc|apply pw_below_drewN|apply below_drew1|refine below_set ?_ GE387.out|refine below_set ?_ GE388.out)|exact HB.out)⟩
end Go.Proofs.Ytaiiikfeaokmhaa.PFnQueue
