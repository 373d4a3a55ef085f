import Derived.Test.YtaiiikfeaokmhaaPFnQueuex0
import Derived.Test.YtaiiikfeaokmhaaPFnQueuex2
import Derived.Test.YtaiiikfeaokmhaaPFnQueuex7
import Derived.Test.YtaiiikfeaokmhaaPFnQueuex8
import Derived.Test.YtaiiikfeaokmhaaPFnQueuex9
namespace Go.Proofs.Ytaiiikfeaokmhaa.PFnQueue
open Go.RowKit Go.Proofs.YtaiiikfeaokmhaaW.PrintWords Go.Proofs.YtaiiikfeaokmhaaW.PrintLast Go.Proofs.YtaiiikfeaokmhaaW.PrintMore
attribute [local go_sem] max2_int min2_int max_two min_two max_three min_three max_four min_four   -- for this text's walks alone
set_option linter.unusedVariables false
set_option linter.unusedSimpArgs false
def impl_queueCode.f (k:Nat) (l0:List (S25)):Option (Int):=(impl_Due_121.f l0).bind fun t347=>(if t347 = true then (some 2) else ((impl_QueueRight.f k l0).bind fun t348=>(if t348 = true then (some 0) else (some 1))))
set_option maxHeartbeats 8000000 in
set_option maxRecDepth 100000 in
theorem impl_queueCode.calls (k:Nat) (A0:Option Addr) (c0:Nat) (l0:List (S25)) (r:Int) (w:World) (hr0:Kd.C k25 w A0 l0.length l0) (hc0:l0.length≤c0) (h:impl_queueCode.f k l0 = some r) :
  Calls Try.prog 64 #[.slice A0 l0.length c0] w fun e w'=>e = .returned (.int .i64 r)∧Below w.heap.size w w':=by
 have HR0:=Aside0.mk hr0
 have HC0:=Aside0.mk hc0
 clear hr0 hc0
 have HB:=Aside0.mk (Below.refl w.heap.size w)
 have H:((impl_Due_121.f l0).bind fun t347=>(if t347 = true then (some 2) else ((impl_QueueRight.f k l0).bind fun t348=>(if t348 = true then (some 0) else (some 1))))) = some r:=h
 clear h
 replace H:=Option.bind_eq_some_iff.mp H
 obtain ⟨t347,A20,H⟩:=H
 replace H:(if t347 = true then (some 2) else ((impl_QueueRight.f k l0).bind fun t348=>(if t348 = true then (some 0) else (some 1)))) = some r:=H
 have A2:=Aside0.mk A20
 clear A20
 by_cases c3:t347 = true
 ·subst c3
  have H1:(some 2) = some r:=by rw [if_pos rfl] at H;exact H
  clear H
  have H:=H1
  clear H1
  obtain rfl:=Option.some.inj H
  go_enter Try.func64,Try.ntmps64
  go_wp2_with (first|((with_reducible refine gate_callee (f:=121) rfl ?_);refine goesL_ (some 5) rfl rfl Try.func121 (by kernel_rfl) rfl #[.slice A0 l0.length c0] rfl (by (try simp only [List.map_toArray,List.map_cons,List.map_nil]);first|done|rfl|(simp only [List.length_drop,List.length_take];rfl)) ?_;(with_reducible refine (impl_Due_121.calls _ _ l0 true _ ?side1 ?side2 A2.out).mono ?_);(case side1=>repeat (first|exact HR0.out|(with_reducible refine Kd.C_alloc ?_ _)|(with_reducible refine Kd.C_drewN ?_ _)|(with_reducible refine Kd.C_drew ?_)));(case side2=>exact HC0.out);rintro e w' ⟨rfl,⟨nd,rfl⟩⟩;refine ⟨_,rfl,?_⟩))
  go_ret
  exact ⟨by first|rfl|(simp [errW_none,errW_some] <;> rfl)|(simp [*,errW_none,errW_some] <;> rfl),by repeat (first|(with_reducible first|exact HB.out|apply below_alloc|apply pw_below_drewN|apply below_drew1)|exact HB.out)⟩
 ·replace c3:=Bool.eq_false_iff.mpr c3
  subst c3
  have H1:((impl_QueueRight.f k l0).bind fun t348=>(if t348 = true then (some 0) else (some 1))) = some r:=by rw [if_neg (show ¬ (false = true) by decide)] at H;exact H
  clear H
  have H:=H1
  clear H1
  replace H:=Option.bind_eq_some_iff.mp H
  obtain ⟨t348,A40,H⟩:=H
  replace H:(if t348 = true then (some 0) else (some 1)) = some r:=H
  have A4:=Aside0.mk A40
  clear A40
  by_cases c5:t348 = true
  ·subst c5
   have H1:(some 0) = some r:=by rw [if_pos rfl] at H;exact H
   clear H
   have H:=H1
   clear H1
   obtain rfl:=Option.some.inj H
   go_enter Try.func64,Try.ntmps64
   go_wp2_with (first|((with_reducible refine gate_callee (f:=121) rfl ?_);refine goesL_ (some 5) rfl rfl Try.func121 (by kernel_rfl) rfl #[.slice A0 l0.length c0] rfl (by (try simp only [List.map_toArray,List.map_cons,List.map_nil]);first|done|rfl|(simp only [List.length_drop,List.length_take];rfl)) ?_;(with_reducible refine (impl_Due_121.calls _ _ l0 false _ ?side1 ?side2 A2.out).mono ?_);(case side1=>repeat (first|exact HR0.out|(with_reducible refine Kd.C_alloc ?_ _)|(with_reducible refine Kd.C_drewN ?_ _)|(with_reducible refine Kd.C_drew ?_)));(case side2=>exact HC0.out);rintro e w' ⟨rfl,⟨nd,rfl⟩⟩;refine ⟨_,rfl,?_⟩)|((with_reducible refine gate_callee (f:=17) rfl ?_);refine goesL_ (some 8) rfl rfl Try.func17 (by kernel_rfl) rfl #[.slice A0 l0.length c0] rfl (by (try simp only [List.map_toArray,List.map_cons,List.map_nil]);first|done|rfl|(simp only [List.length_drop,List.length_take];rfl)) ?_;(with_reducible refine (impl_QueueRight.calls k _ _ l0 true _ ?side1 ?side2 A4.out).mono ?_);(case side1=>repeat (first|exact HR0.out|(with_reducible refine Kd.C_alloc ?_ _)|(with_reducible refine Kd.C_drewN ?_ _)|(with_reducible refine Kd.C_drew ?_)));(case side2=>exact HC0.out);rintro e w6 ⟨rfl,hb⟩;refine ⟨_,rfl,?_⟩;have n0_:=Aside0.mk (below_step (by repeat (first|(with_reducible first|exact HB.out|apply below_alloc|apply pw_below_drewN|apply below_drew1)|exact HB.out)) hb);clear HB;have HB:=n0_;clear n0_;(try clear hb);(try clear hb2);(try clear hk);(try clear hi)))
   go_ret
   exact ⟨by first|rfl|(simp [errW_none,errW_some] <;> rfl)|(simp [*,errW_none,errW_some] <;> rfl),by repeat (first|(with_reducible first|exact HB.out|apply below_alloc|apply pw_below_drewN|apply below_drew1)|exact HB.out)⟩
  ·replace c5:=Bool.eq_false_iff.mpr c5
   subst c5
   have H1:(some 1) = some r:=by rw [if_neg (show ¬ (false = true) by decide)] at H;exact H
   clear H
   have H:=H1
   clear H1
   obtain rfl:=Option.some.inj H
   go_enter Try.func64,Try.ntmps64
   go_wp2_with (first|((with_reducible refine gate_callee (f:=121) rfl ?_);refine goesL_ (some 5) rfl rfl Try.func121 (by kernel_rfl) rfl #[.slice A0 l0.length c0] rfl (by (try simp only [List.map_toArray,List.map_cons,List.map_nil]);first|done|rfl|(simp only [List.length_drop,List.length_take];rfl)) ?_;(with_reducible refine (impl_Due_121.calls _ _ l0 false _ ?side1 ?side2 A2.out).mono ?_);(case side1=>repeat (first|exact HR0.out|(with_reducible refine Kd.C_alloc ?_ _)|(with_reducible refine Kd.C_drewN ?_ _)|(with_reducible refine Kd.C_drew ?_)));(case side2=>exact HC0.out);rintro e w' ⟨rfl,⟨nd,rfl⟩⟩;refine ⟨_,rfl,?_⟩)|((with_reducible refine gate_callee (f:=17) rfl ?_);refine goesL_ (some 8) rfl rfl Try.func17 (by kernel_rfl) rfl #[.slice A0 l0.length c0] rfl (by (try simp only [List.map_toArray,List.map_cons,List.map_nil]);first|done|rfl|(simp only [List.length_drop,List.length_take];rfl)) ?_;(with_reducible refine (impl_QueueRight.calls k _ _ l0 false _ ?side1 ?side2 A4.out).mono ?_);(case side1=>repeat (first|exact HR0.out|(with_reducible refine Kd.C_alloc ?_ _)|(with_reducible refine Kd.C_drewN ?_ _)|(with_reducible refine Kd.C_drew ?_)));(case side2=>exact HC0.out);rintro e w7 ⟨rfl,hb⟩;refine ⟨_,rfl,?_⟩;have n0_:=Aside0.mk (below_step (by repeat (first|(with_reducible first|exact HB.out|apply below_alloc|apply pw_below_drewN|apply below_drew1)|exact HB.out)) hb);clear HB;have HB:=n0_;clear n0_;(try clear hb);(try clear hb2);(try clear hk);(try clear hi)))
   go_ret
   exact ⟨by first|rfl|(simp [errW_none,errW_some] <;> rfl)|(simp [*,errW_none,errW_some] <;> rfl),by repeat (first|(with_reducible first|exact HB.out|apply below_alloc|apply pw_below_drewN|apply below_drew1)|exact HB.out)⟩
def impl_Due_69.f (l0:List (S25)):Option (List (S25)):=if l0.length < 3518437208883 then some l0 else none
set_option maxHeartbeats 8000000 in
set_option maxRecDepth 100000 in
theorem impl_Due_69.calls (A0:Option Addr) (c0:Nat) (l0:List (S25)) (r:List (S25)) (w:World) (hr0:Kd.C k25 w A0 l0.length l0) (hc0:l0.length≤c0) (h:impl_Due_69.f l0 = some r) :
  Calls Try.prog 69 #[.slice A0 l0.length c0] w fun e w'=>∃ v0_:Value,e = .returned (v0_)∧Kd.R k25 25 w' w.heap.size (fun _=>True) v0_ r∧Below w.heap.size w w':=by
 unfold impl_Due_69.f at h
 by_cases hl:l0.length < 3518437208883
 ·rw [if_pos hl] at h
  obtain rfl:=Option.some.inj h
  clear h
  have HR0:=Aside0.mk hr0
  have HL:=Aside0.mk hl
  have qn:∀ (w:World) (a:Option Addr) (n c n' c':Nat),(binOp .eql 23 (.slice a n c) (.slice none n' c')).run Try.prog w = .ok (.bool a.isNone) w:=fun w a n c n' c'=>Go.Lib.run_eql_slice_nil w _ _ a n c n' c' Try.underlying23
  cases A0 with
  | none =>
   have h0:l0 = []:=by
    rcases Nat.eq_zero_or_pos l0.length with h|h
    ·exact List.eq_nil_of_length_eq_zero h
    ·obtain ⟨_,e,_⟩:=hr0.2.2 h
     cases e
   subst h0
   clear hr0 hc0 hl
   go_enter Try.func69,Try.ntmps69
   go_wp2
   go_ret
   exact ⟨_,rfl,Kd.R_nil _ _ _ _ _,Below.refl _ _⟩
  | some ad =>
   clear hr0 hc0 hl
   go_enter Try.func69,Try.ntmps69
   go_wp2_with (first|((with_reducible refine gate_dst (N:=5) rfl ?_);refine Kd.R_lit k25 _ 25 ?hg (N:=5) ?hd (xs:=([]:List (S25))) (inner:=[]) (ok:=fun _=>True) (okp:=fun _=>True) ?hr ?hp (fun _ hk=>hk) trivial (Below.refl _ _) (Nat.le_refl _) (by simp) ?_;(case hd=>rfl);(case hg=>rfl);(case hr=>first|(go_simp;done)|(go_simp;rfl));(case hp=>exact (Reps.none _ _));intro v5 w5 ho5 hb5 hg_ hnew_;clear hg_ hnew_;have HO5:=Aside0.mk ho5;have HB5:=Aside0.mk hb5;clear ho5 hb5)|((with_reducible refine gate_builtin (b:=.append) (xs:=#[.tmp 5,.tmp 6]) rfl ?_);at_builtin;refine Kd.R_append_rows k25 (w0:=w) w.heap.size rfl (.tmp 5) (.tmp 6) 23 25 (.agg #[(.int .i64 0),(.int .i64 0),(.int .i64 0),(.string ⟨#[]⟩)]) 40 rfl Try.underlying23 info25 rfl (by decide) (by omega) v5 [] l0 _ _ _ (fun _=>True) (fun _=>False) rfl rfl ?aO ?aR (fun _ _ h=>h) (fun _ h=>h.elim) ?aF ?aB ?aS ?aL ?_;(case aR=>exact Kd.C_below HR0.out HB5.out);(case aB=>exact HB5.out);(case aF=>exact (fun _ _=>trivial));(case aO=>exact HO5.out);(case aS=>exact HB5.out.size);(case aL=>have:=HL.out;simp only [List.length_nil];omega);intro v7 w7 ho hb hg hat;have HO7:=Aside0.mk ho;have HB7:=Aside0.mk hb;clear ho hb hg hat;obtain ⟨Ao_,co_,eo_⟩:=Kd.R_slice HO7.out;subst eo_))
   go_ret
   exact ⟨_,rfl,HO7.out,HB7.out⟩
 ·rw [if_neg hl] at h;exact absurd h (by simp)
set_option maxHeartbeats 8000000 in
set_option maxRecDepth 100000 in
theorem impl_QueuePut.ins_end (v:Value) (l0:List S25) (x:S25) (cx:List Value) (bx base:Nat) (w:World) (hR:Kd.R k25 25 w base (fun _=>True) v l0) (hcx:cx.length = 4) (hx:∀ W b okp,Kd.M k25 W b okp x cx)
  (hbx:w.heap[bx]? = some (.cells cx.toArray 25 (0,0))) (hbase:base≤w.heap.size) (hl:l0.length≤1048576) :
  Calls Try.prog 68 #[v,.int .i64 (l0.length:Int),.slice (some ⟨bx,0,none⟩) 1 1] w fun e w'=>∃ v':Value,e = .returned v'∧Kd.R k25 25 w' base (fun _=>True) v' (l0 ++ [x])∧Below base w w':=by
 obtain ⟨A,c,rfl⟩:=Kd.R_slice hR
 have HC:=Aside0.mk (Go.Proofs.YtaiiikfeaokmhaaH.C_one (d:=k25) (w:=w) (e:=25) hcx ((Kd.K_of_M _) (hx w base (fun _=>True))) hbx)
 have hlc:=(Kd.R_reads' hR).2.1
 have hlcz:(l0.length:Int)≤(c:Int):=by omega
 have HR:=Aside0.mk hR
 have HX:=Aside0.mk hx
 have HS:=Aside0.mk hbase
 have HL:=Aside0.mk hl
 clear hR hbx hbase hl hcx hx hlc
 obtain ⟨i0,hi,hz0,hz1,hz2⟩:=info_parts info25
 obtain ⟨A1,hcut⟩:=Go.Proofs.YtaiiikfeaokmhaaH.cut_any (P:=Try.prog) 23 25 .i64 Try.underlying23 hi A l0.length c l0.length (Nat.le_refl _)
 clear hi hz0 hz1 hz2
 go_enter Try.func68,Try.ntmps68
 go_wp2_with ((with_reducible refine gate_builtin (b:=.append) (xs:=#[.tmp 23,.tmp 24]) rfl ?_);at_builtin;refine Kd.R_append_rows k25 (Rr:=Kd.K k25 w) (w0:=w) base rfl (.tmp 23) (.tmp 24) 23 25 (.agg #[(.int .i64 0),(.int .i64 0),(.int .i64 0),(.string ⟨#[]⟩)]) 40 rfl Try.underlying23 info25 rfl (by decide) (by decide) (.slice _ l0.length c) l0 [x] (some ⟨bx,0,none⟩) 1 1 (fun _=>True) (fun _=>False) rfl rfl ?aO ?aR ?aK (fun _ h=>h.elim) ?aF ?aB ?aS ?aL ?_;(case aR=>exact HC.out);(case aK=>intro p cs hp;exact (by obtain rfl:=k25_open hp;exact k25_mkM _ _ _ p));(case aB=>exact Below.refl _ _);(case aF=>exact (fun _ _=>trivial));(case aO=>exact HR.out);(case aS=>exact HS.out);(case aL=>have:=HL.out;omega);intro v7 w7 ho hb hg hat;have HO7:=Aside0.mk ho;have HB7:=Aside0.mk hb;clear ho hb hg hat)
 go_ret
 exact ⟨_,rfl,HO7.out,HB7.out⟩
set_option maxHeartbeats 8000000 in
set_option maxRecDepth 100000 in
theorem impl_QueuePut.ins_in (v:Value) (l0:List S25) (i:Nat) (x:S25) (cx:List Value) (bx base:Nat) (w:World) (hR:Kd.R k25 25 w base (fun _=>True) v l0) (hi:i < l0.length) (hcx:cx.length = 4) (hx:∀ W b okp,Kd.M k25 W b okp x cx) (hc1:∀ u ∈ cx,u.oneCell' = true)
  (hbx:w.heap[bx]? = some (.cells cx.toArray 25 (0,0))) (hne:v.ownBlock≠some bx) (hbase:base≤w.heap.size) (hl:l0.length≤1048576) (hroom:∀ g c,v = .slice (some ⟨g,0,none⟩) l0.length c→l0.length + 1≤c) :
  Calls Try.prog 68 #[v,.int .i64 (i:Int),.slice (some ⟨bx,0,none⟩) 1 1] w fun e w'=>∃ v':Value,e = .returned v'∧Kd.R k25 25 w' base (fun _=>True) v' (l0.take i ++ [x] ++ l0.drop i)∧Below base w w':=by
 obtain ⟨g,c,cur,hd,tl,rfl,hgb,hh,hnc,hcm,hcs,hhd,htl,hcd,hct,h1d,h1t,_⟩:=Go.Proofs.YtaiiikfeaokmhaaH.R_open hR (by decide) i hi
 have hrm:=hroom g c rfl
 have esz:(k25).sz = 4:=rfl
 have hgx:g≠bx:=fun e=>hne (by rw [e];rfl)
 have FIN:=Aside0.mk (Go.Proofs.YtaiiikfeaokmhaaH.R_put_in (cur:=cur) (Kd.R_drew hR) i (by omega) hrm x cx tl hcx hx htl (fun j u h=>hct j u h))
 simp only [esz,Nat.mul_one] at hcs hhd htl hct FIN
 clear esz
 have BEL:=Aside0.mk (Go.Proofs.YtaiiikfeaokmhaaH.below_setCells hgb cx (i * 4) (Go.Proofs.YtaiiikfeaokmhaaH.below_setCells hgb tl ((i + 1) * 4) (below_drew (Below.refl base w))))
 obtain ⟨i0,hi0,hz0,hz1,hz2⟩:=info_parts info25
 obtain ⟨A1,hcut⟩:=Go.Proofs.YtaiiikfeaokmhaaH.cut_any (P:=Try.prog) 23 25 .i64 Try.underlying23 hi0 (some ⟨g,0,none⟩) l0.length c i (by omega)
 have hsz:(Try.prog.info? 25).map (·.size) = some 4:=by rw [hi0];simp [hz1]
 have hcell:∀ k,k < c * 4→(w.cell? ⟨g,k,none⟩).isSome = true:=fun k hk=>by
  rw [blk_cell hh,Array.getElem?_eq_getElem (by omega)];rfl
 have hfz:∀ k,w.frozen? ⟨g,k,none⟩ = false:=fun k=>blk_frozen hh k
 have hsa:w.shape? bx = some (25,cx.toArray.size):=by simp [World.shape?,hbx]
 have hsb:w.shape? g = some (25,cur.size):=by simp [World.shape?,hh]
 have hkB:cur.size≠0:=by rw [hcs];omega
 have hov:∀ o lb cb,(callFunc 124 #[.slice (some ⟨bx,0,none⟩) 1 1,.slice (some ⟨g,o,none⟩) lb cb]).run Try.prog w = .ok (.value (.bool false)) w:=fun o lb cb=>by
  rw [run_callFunc_extern Try.func124 (by kernel_rfl) (by kernel_rfl) (by kernel_rfl) (e:=Extern.SlicesOverlaps.overlaps #[23,23] #[4]) (by kernel_rfl),
   Go.Lib.run_overlaps_apart w 23 4 25 Try.underlying23 4 (fun w=>by simp [sizeOf,typeInfo,hi0,hz1]) ⟨bx,0,none⟩ ⟨g,o,none⟩ 1 1 lb cb (fun h=>hgx h.symm) 25 25 _ _ hsa hsb hkB (blk_frozen hbx _) (blk_frozen hbx _)]
  rfl
 have hcp1:∀ ty dc sc,(Builtin.copy_ #[23,23] ty #[.slice (some ⟨g,(i + 1) * 4,none⟩) (l0.length - i) dc,.slice (some ⟨g,i * 4,none⟩) (l0.length + 1 - i) sc]).run Try.prog w.drew = .ok (goInt (l0.length - i:Nat)) (w.drew.setCells g ((i + 1) * 4) tl):=fun ty dc sc=>by
  have h:=Go.Proofs.YtaiiikfeaokmhaaH.run_copy_cellsN (P:=Try.prog) w.drew 23 23 ty 25 4 g ((i + 1) * 4) (l0.length - i) dc ⟨g,i * 4,none⟩ (l0.length + 1 - i) sc tl Try.underlying23 hsz (by rw [htl];congr 1;simp only [Nat.min_def];split <;> omega)
   (fun j v hj=>by rw [show (⟨g,i * 4,none⟩:Addr).add j = ⟨g,i * 4 + j,none⟩ by unfold Addr.add;split <;> simp_all];exact hct j v hj)
   (fun j hj=>hcell _ (by omega)) (fun j hj=>hfz _) h1t
  rw [h]
  congr 2
  simp only [Nat.min_def];split <;> omega
 have hW1:∃ W1,W1 = w.drew.setCells g ((i + 1) * 4) tl:=⟨_,rfl⟩
 obtain ⟨W1,hW1⟩:=hW1
 have hcp2:∀ (W:World),(∀ x,W.cell? x = W1.cell? x)→(∀ x,W.frozen? x = W1.frozen? x)→∀ ty dc,(Builtin.copy_ #[23,23] ty #[.slice (some ⟨g,i * 4,none⟩) (l0.length + 1 - i) dc,.slice (some ⟨bx,0,none⟩) 1 1]).run Try.prog W = .ok (goInt (1:Nat)) (W.setCells g (i * 4) cx):=fun W hWc hWf ty dc=>by
  have h:=Go.Proofs.YtaiiikfeaokmhaaH.run_copy_cellsN (P:=Try.prog) W 23 23 ty 25 4 g (i * 4) (l0.length + 1 - i) dc ⟨bx,0,none⟩ 1 1 cx Try.underlying23 hsz (by rw [hcx];simp only [Nat.min_def];split <;> omega)
   (fun j v hj=>by
    rw [add_plain,hWc,hW1,World.cell?_setCells_out g _ _ _ _ (fun h _=>absurd h.symm hgx)]
    exact (blk_cell (w:=w) hbx j).trans (by simpa using hj))
   (fun j hj=>by
    rw [hWc,hW1]
    exact Go.Proofs.YtaiiikfeaokmhaaH.isSome_setCells g tl ((i + 1) * 4) w.drew (fun k hk=>hcell _ (by omega)) _ (hcell _ (by omega)))
   (fun j hj=>by rw [hWf,hW1,World.frozen?_setCells];exact hfz _) hc1
  rw [h]
  congr 2
  simp only [Nat.min_def];split <;> omega
 rw [← hW1] at hcp1
 have HW:=Aside0.mk hW1
 have HI:=Aside0.mk hi
 have HC:=Aside0.mk hc1
 have HL:=Aside0.mk hl
 have HX:=Aside0.mk hx
 have HG:=Aside0.mk hgx
 have HT:=Aside0.mk hct
 have HD:=Aside0.mk hcd
 have H2:=Aside0.mk (And.intro h1d h1t)
 have H3:=Aside0.mk (And.intro hhd htl)
 have H4:=Aside0.mk (And.intro hcell hfz)
 have HB:=Aside0.mk hbx
 have hz1':¬ ((i:Int) = (l0.length:Int)):=by omega
 have hz2':(i:Int)≤(l0.length:Int):=by omega
 have hz3':(l0.length:Int) + 1≤(c:Int):=by omega
 have hz4':(i:Int)≤(l0.length:Int) + 1:=by omega
 have hz5':(c:Int)≤9223372036854775807:=by omega
 have hz6':¬ (c = i + 1):=by omega
 have hz7':¬ (c = i):=by omega
 have hz8':IntKind.i64.wrap ((i:Int) + 1) = (i:Int) + 1:=by rw [IntKind.wrap_i64];omega
 have hz9':((i:Int) + 1).toNat = i + 1:=by omega
 have hz10':(0:Int)≤(i:Int) + 1:=by omega
 have mixed:Try.prog.follows .mixedOrders = true:=by kernel_rfl
 clear hW1 hi hc1 hl hx hgx hct hcd h1d h1t hhd htl hcell hfz hbx hR hh hroom hne hsa hsb hkB hsz hi0 hz0 hz1 hz2 hgb hcs hcx hbase
 go_enter Try.func68,Try.ntmps68
 go_wp2_with (simp only [hov])
 go_region_law_o (refine Go.Proofs.YtaiiikfeaokmhaaH.step_copy_runI rfl _ _ 23 23 rfl _ _ (by simp [Act.eval,Act.put]) (by simp [Act.eval,Act.put]) (hcp1 _ _ _) ?_)
 go_wp2_with (at_builtin;refine Go.Proofs.YtaiiikfeaokmhaaH.wpList_copy_runI _ rfl _ _ 23 23 rfl _ _ rfl rfl (hcp2 _ (fun _=>rfl) (fun _=>rfl) _ _) ?_)
 go_ret
 exact ⟨_,rfl,by rw [HW.out];exact FIN.out,by rw [HW.out];exact BEL.out⟩
set_option maxHeartbeats 8000000 in
set_option maxRecDepth 100000 in
theorem impl_QueuePut.ins_grow (v:Value) (l0:List S25) (i:Nat) (x:S25) (cx:List Value) (bx base:Nat) (w:World) (hR:Kd.R k25 25 w base (fun _=>True) v l0) (hi:i < l0.length) (hcx:cx.length = 4) (hx:∀ W b okp,Kd.M k25 W b okp x cx) (hc1:∀ u ∈ cx,u.oneCell' = true)
  (hbx:w.heap[bx]? = some (.cells cx.toArray 25 (0,0))) (hbase:base≤w.heap.size) (hl:l0.length≤1048576) (hroom:∀ g c,v = .slice (some ⟨g,0,none⟩) l0.length c→c < l0.length + 1) :
  Calls Try.prog 68 #[v,.int .i64 (i:Int),.slice (some ⟨bx,0,none⟩) 1 1] w fun e w'=>∃ v':Value,e = .returned v'∧Kd.R k25 25 w' base (fun _=>True) v' (l0.take i ++ [x] ++ l0.drop i)∧Below base w w':=by
 obtain ⟨g,c,cur,hd,tl,rfl,hgb,hh,hnc,hcm,hcs,hhd,htl,hcd,hct,h1d,h1t,hnew⟩:=Go.Proofs.YtaiiikfeaokmhaaH.R_open hR (by decide) i hi
 have hrm:=hroom g c rfl
 have esz:(k25).sz = 4:=rfl
 simp only [esz,Nat.mul_one] at hcs hhd htl hct hnew
 clear esz
 obtain ⟨i0,hi0,hz0,hz1,hz2⟩:=info_parts info25
 have hsz:(Try.prog.info? 25).map (·.size) = some 4:=by rw [hi0];simp [hz1]
 have hgw:g < w.heap.size:=blk_lt hh
 have hxw:bx < w.heap.size:=blk_lt hbx
 have hold:(Builtin.firstCells i0.size i (.slice (some ⟨g,0,none⟩) i c)).run Try.prog w.drew = .ok hd.toArray w.drew:=by
  rw [hz1]
  exact run_firstCells_some w.drew 4 i ⟨g,0,none⟩ i c hd (by omega) (fun j v hj=>by rw [add_plain];exact hcd j v hj)
 have hrz:∀ ty,(Builtin.append_ #[23,3] ty #[.slice (some ⟨g,0,none⟩) i c,.int .i64 ((l0.length:Int) + 1 - (i:Int))]).run Try.prog w =
   .ok (.slice (some ⟨w.heap.size,0,none⟩) (l0.length + 1) (grownCap w (l0.length + 1) c 25)) (w.drew.alloc (.cells (hd.toArray ++ Builtin.zeroCells (Value.cells (.agg #[(.int .i64 0),(.int .i64 0),(.int .i64 0),(.string ⟨#[]⟩)])) (l0.length + 1 - i) ++ Builtin.zeroCells (Value.cells (.agg #[(.int .i64 0),(.int .i64 0),(.int .i64 0),(.string ⟨#[]⟩)])) (grownCap w (l0.length + 1) c 25 - (l0.length + 1))) 25)):=fun ty=>by
  have h:=Go.Lib.run_append_grow_zeros w 23 3 ty 25 i0 _ .i64 .i64 Try.underlying23 Try.underlying3 hi0 hz0 (some ⟨g,0,none⟩) i c hd hold (l0.length + 1 - i) (by omega) (by omega) (by omega) (by omega) (by rw [hz2];omega) (by rw [hz2,show i + (l0.length + 1 - i) = l0.length + 1 by omega];exact growslice_fits hrm (by omega))
  rw [show i + (l0.length + 1 - i) = l0.length + 1 by omega] at h
  rw [show (l0.length:Int) + 1 - (i:Int) = ((l0.length + 1 - i:Nat):Int) by omega]
  exact h
 have hGn:l0.length + 1≤grownCap w (l0.length + 1) c 25:=grownCap_ge w _ _ _
 have hG63:grownCap w (l0.length + 1) c 25≤9223372036854775807:=by
  have:=grownCap_le_maxLen w (l0.length + 1) c 25 (by unfold maxLen;omega)
  unfold maxLen at this
  omega
 generalize grownCap w (l0.length + 1) c 25 = G at *
 obtain ⟨ROW,hROW⟩:∃ ROW:Array Value,ROW = hd.toArray ++ Builtin.zeroCells (Value.cells (.agg #[(.int .i64 0),(.int .i64 0),(.int .i64 0),(.string ⟨#[]⟩)])) (l0.length + 1 - i) ++ Builtin.zeroCells (Value.cells (.agg #[(.int .i64 0),(.int .i64 0),(.int .i64 0),(.string ⟨#[]⟩)])) (G - (l0.length + 1)):=⟨_,rfl⟩
 rw [← hROW] at hrz
 have hzs:(Value.cells (.agg #[(.int .i64 0),(.int .i64 0),(.int .i64 0),(.string ⟨#[]⟩)])).size = 4:=rfl
 have hRl:ROW.size = G * 4:=by
  rw [hROW,Array.size_append,Array.size_append,size_zeroCells,size_zeroCells,hzs,List.size_toArray,hhd]
  omega
 have hRt:ROW.toList = hd ++ (Builtin.zeroCells (Value.cells (.agg #[(.int .i64 0),(.int .i64 0),(.int .i64 0),(.string ⟨#[]⟩)])) (l0.length + 1 - i) ++ Builtin.zeroCells (Value.cells (.agg #[(.int .i64 0),(.int .i64 0),(.int .i64 0),(.string ⟨#[]⟩)])) (G - (l0.length + 1))).toList:=by
  rw [hROW];simp
 have hRr:cx.length + tl.length≤((Builtin.zeroCells (Value.cells (.agg #[(.int .i64 0),(.int .i64 0),(.int .i64 0),(.string ⟨#[]⟩)])) (l0.length + 1 - i) ++ Builtin.zeroCells (Value.cells (.agg #[(.int .i64 0),(.int .i64 0),(.int .i64 0),(.string ⟨#[]⟩)])) (G - (l0.length + 1))).toList).length:=by
  simp only [Array.length_toList (xs:=_ ++ _),Array.size_append,size_zeroCells,hzs]
  omega
 have W1b:(w.drew.alloc (.cells ROW 25)).heap[w.heap.size]? = some (.cells ROW 25 (0,0)):=blk_new w.drew _
 obtain ⟨W1,hW1⟩:∃ W1,W1 = w.drew.alloc (.cells ROW 25):=⟨_,rfl⟩
 rw [← hW1] at hrz W1b
 have hN:∀ j,j < G * 4→(W1.cell? ⟨w.heap.size,j,none⟩).isSome = true:=fun j hj=>by
  rw [blk_cell W1b,Array.getElem?_eq_getElem (by omega)];rfl
 have hNf:∀ j,W1.frozen? ⟨w.heap.size,j,none⟩ = false:=fun j=>blk_frozen W1b j
 have hO:∀ b j v,b < w.heap.size→w.cell? ⟨b,j,none⟩ = some v→W1.cell? ⟨b,j,none⟩ = some v:=fun b j v hb h=>by rw [hW1,World.cell?_alloc_past (w:=w.drew) _ b j hb];exact h
 have hcpA:∀ (W:World),(∀ x,W.cell? x = W1.cell? x)→(∀ x,W.frozen? x = W1.frozen? x)→∀ ty dc,(Builtin.copy_ #[23,23] ty #[.slice (some ⟨w.heap.size,i * 4,none⟩) (l0.length + 1 - i) dc,.slice (some ⟨bx,0,none⟩) 1 1]).run Try.prog W = .ok (goInt (1:Nat)) (W.setCells w.heap.size (i * 4) cx):=fun W hWc hWf ty dc=>by
  have h:=Go.Proofs.YtaiiikfeaokmhaaH.run_copy_cellsN (P:=Try.prog) W 23 23 ty 25 4 w.heap.size (i * 4) (l0.length + 1 - i) dc ⟨bx,0,none⟩ 1 1 cx Try.underlying23 hsz (by rw [hcx];simp only [Nat.min_def];split <;> omega)
   (fun j v hj=>by rw [add_plain,hWc];exact hO bx j v hxw ((blk_cell (w:=w) hbx j).trans (by simpa using hj)))
   (fun j hj=>by rw [hWc];exact hN _ (by omega)) (fun j hj=>by rw [hWf];exact hNf _) hc1
  rw [h]
  congr 2
  simp only [Nat.min_def];split <;> omega
 have hcpB:∀ (W:World),(∀ x,W.cell? x = (W1.setCells w.heap.size (i * 4) cx).cell? x)→(∀ x,W.frozen? x = (W1.setCells w.heap.size (i * 4) cx).frozen? x)→∀ ty dc sc,(Builtin.copy_ #[23,23] ty #[.slice (some ⟨w.heap.size,(i + 1) * 4,none⟩) (l0.length - i) dc,.slice (some ⟨g,i * 4,none⟩) (l0.length - i) sc]).run Try.prog W = .ok (goInt (l0.length - i:Nat)) (W.setCells w.heap.size ((i + 1) * 4) tl):=fun W hWc hWf ty dc sc=>by
  have h:=Go.Proofs.YtaiiikfeaokmhaaH.run_copy_cellsN (P:=Try.prog) W 23 23 ty 25 4 w.heap.size ((i + 1) * 4) (l0.length - i) dc ⟨g,i * 4,none⟩ (l0.length - i) sc tl Try.underlying23 hsz (by rw [htl];simp only [Nat.min_def];split <;> omega)
   (fun j v hj=>by
    rw [show (⟨g,i * 4,none⟩:Addr).add j = ⟨g,i * 4 + j,none⟩ by unfold Addr.add;split <;> simp_all,hWc,World.cell?_setCells_out _ _ _ _ _ (fun h _=>absurd h (by show g≠w.heap.size;omega))]
    exact hO g _ v hgw (hct j v hj))
   (fun j hj=>by rw [hWc];exact Go.Proofs.YtaiiikfeaokmhaaH.isSome_setCells w.heap.size cx (i * 4) W1 (fun t ht=>hN _ (by omega)) _ (hN _ (by omega)))
   (fun j hj=>by rw [hWf,World.frozen?_setCells];exact hNf _) h1t
  rw [h]
  congr 2
  simp only [Nat.min_def];split <;> omega
 obtain ⟨cur',hb1,hb2,hb3⟩:=Go.Proofs.YtaiiikfeaokmhaaH.new_row (W1:=(w.alloc (.cells ROW 25)).drew) (o:=i * 4) (o2:=(i + 1) * 4) (W2:=(((w.alloc (.cells ROW 25)).drew.setCells w.heap.size (i * 4) cx).drew)) (blk_drew (blk_new w _)) hRt hRr (by omega) (by omega) rfl
 have HB1:Below w.heap.size w ((((w.alloc (.cells ROW 25)).drew.setCells w.heap.size (i * 4) cx).drew).setCells w.heap.size ((i + 1) * 4) tl):=Go.Proofs.YtaiiikfeaokmhaaH.below_setCells (Nat.le_refl _) tl _ (below_drew (Go.Proofs.YtaiiikfeaokmhaaH.below_setCells (Nat.le_refl _) cx _ (below_drew (below_alloc (Below.refl _ w) _))))
 have FIN:=Aside0.mk (hnew _ _ G cur' x cx HB1 hbase (Nat.le_refl _) hb1 hGn hG63 (by rw [hb2];omega) hcx hx (by rw [← hb3];congr 1;omega))
 have BEL:=Aside0.mk (HB1.mono hbase)
 subst hW1
 have hE1:∀ x,((w.alloc (.cells ROW 25)).drew).cell? x = (w.drew.alloc (.cells ROW 25)).cell? x:=fun x=>rfl
 have hE2:∀ x,((w.alloc (.cells ROW 25)).drew).frozen? x = (w.drew.alloc (.cells ROW 25)).frozen? x:=fun x=>rfl
 have hF1:∀ x,(((w.alloc (.cells ROW 25)).drew.setCells w.heap.size (i * 4) cx).drew).cell? x = ((w.drew.alloc (.cells ROW 25)).setCells w.heap.size (i * 4) cx).cell? x:=fun x=>rfl
 have hF2:∀ x,(((w.alloc (.cells ROW 25)).drew.setCells w.heap.size (i * 4) cx).drew).frozen? x = ((w.drew.alloc (.cells ROW 25)).setCells w.heap.size (i * 4) cx).frozen? x:=fun x=>rfl
 have HI:=Aside0.mk hi
 have HX:=Aside0.mk (And.intro hx (And.intro hc1 (And.intro h1d h1t)))
 have hz1':¬ ((i:Int) = (l0.length:Int)):=by omega
 have hz2':(i:Int)≤(l0.length:Int):=by omega
 have hz3':(c:Int) < (l0.length:Int) + 1:=by omega
 have hz4':(i:Int)≤(l0.length:Int) + 1:=by omega
 have hz5':(c:Int)≤9223372036854775807:=by omega
 have hz6':¬ (G = i + 1):=by omega
 have hz7':¬ (G = i):=by omega
 have hz11':¬ (c = i):=by omega
 have hz8':IntKind.i64.wrap ((i:Int) + 1) = (i:Int) + 1:=by rw [IntKind.wrap_i64];omega
 have hz9':((i:Int) + 1).toNat = i + 1:=by omega
 have hz10':(0:Int)≤(i:Int) + 1:=by omega
 have hz14':(i:Int)≤(c:Int):=by omega
 have hz13':(l0.length:Int)≤1048576:=by omega
 have hz12':(i:Int) + 1≤(l0.length:Int) + 1:=by omega
 have mixed:Try.prog.follows .mixedOrders = true:=by kernel_rfl
 have HLL:=Aside0.mk (And.intro hl (And.intro hgw (And.intro hxw (And.intro hGn (And.intro hG63 hcm)))))
 clear hi hx hc1 h1d h1t hR hh hroom hrm hsz hi0 hz0 hz1 hz2 hgb hcs hcx hbase hnew hold hROW hzs hRl hRt hRr W1b hN hNf hO hb1 hb2 hb3 HB1 hl hgw hxw hnc hcm hhd htl hcd hct hbx hGn hG63
 go_enter Try.func68,Try.ntmps68
 go_wp2_with (first
  | (at_builtin;refine Go.Lib.wpList_append_run _ rfl _ _ _ _ rfl _ _ rfl rfl _ _ (hrz _) ?_)
  | (at_builtin;refine Go.Proofs.YtaiiikfeaokmhaaH.wpList_copy_runI _ rfl _ _ 23 23 rfl _ _ rfl rfl (hcpA _ hE1 hE2 _ _) ?_)
  | (at_builtin;refine Go.Proofs.YtaiiikfeaokmhaaH.wpList_copy_runI _ rfl _ _ 23 23 rfl _ _ rfl rfl (hcpB _ (fun _=>rfl) (fun _=>rfl) _ _ _) ?_))
 go_region_law_o (refine Go.Proofs.YtaiiikfeaokmhaaH.step_copy_runI rfl _ _ 23 23 rfl (.slice (some ⟨w.heap.size,(i + 1) * 4,none⟩) (l0.length - i) (G - (i + 1))) (.slice (some ⟨g,i * 4,none⟩) (l0.length - i) (c - i)) (by simp [Act.eval,Act.put]) (by simp [Act.eval,Act.put]) (hcpB _ hF1 hF2 3 (G - (i + 1)) (c - i)) ?_)
 go_wp2
 go_ret
 exact ⟨_,rfl,FIN.out,BEL.out⟩
theorem impl_QueuePut.ins (v:Value) (l0:List S25) (i:Nat) (x:S25) (cx:List Value) (bx base:Nat) (w:World) (hR:Kd.R k25 25 w base (fun _=>True) v l0) (hi:i≤l0.length) (hcx:cx.length = 4) (hx:∀ W b okp,Kd.M k25 W b okp x cx) (hc1:∀ u ∈ cx,u.oneCell' = true)
  (hbx:w.heap[bx]? = some (.cells cx.toArray 25 (0,0))) (hne:v.ownBlock≠some bx) (hbase:base≤w.heap.size) (hl:l0.length≤1048576) :
  Calls Try.prog 68 #[v,.int .i64 (i:Int),.slice (some ⟨bx,0,none⟩) 1 1] w fun e w'=>∃ v':Value,e = .returned v'∧Kd.R k25 25 w' base (fun _=>True) v' (l0.take i ++ [x] ++ l0.drop i)∧Below base w w':=by
 rcases Nat.lt_or_ge i l0.length with h|h
 ·obtain ⟨g,c,rfl,_⟩:=Kd.R_form hR (by omega)
  by_cases hr:l0.length + 1≤c
  ·exact impl_QueuePut.ins_in _ l0 i x cx bx base w hR h hcx hx hc1 hbx hne hbase hl (fun g' c' e=>by cases e;exact hr)
  ·exact impl_QueuePut.ins_grow _ l0 i x cx bx base w hR h hcx hx hc1 hbx hbase hl (fun g' c' e=>by cases e;omega)
 ·obtain rfl:i = l0.length:=by omega
  rw [List.take_of_length_le (Nat.le_refl _),List.drop_of_length_le (Nat.le_refl _),List.append_nil]
  exact impl_QueuePut.ins_end _ l0 x cx bx base w hR hcx hx hbx hbase hl
def impl_QueuePut.bs (k:Nat) (l:List S25) (d:S25):Nat→Nat→Nat→Option Nat
 | 0,i,_=>some i
 | f + 1,i,j=>if i < j then (impl_dueOrder.f k (l.getD ((i + j) / 2) z25).f0 (l.getD ((i + j) / 2) z25).f1 (l.getD ((i + j) / 2) z25).f2 (l.getD ((i + j) / 2) z25).f3 d.f0 d.f1 d.f2 d.f3).bind fun c=>if c < 0 then impl_QueuePut.bs k l d f ((i + j) / 2 + 1) j else impl_QueuePut.bs k l d f i ((i + j) / 2) else some i
theorem impl_QueuePut.bs_mono (l:List S25) (d:S25):∀ (f i j k:Nat),LeO (impl_QueuePut.bs k l d f i j) (impl_QueuePut.bs (k + 1) l d f i j)
 | 0,i,j,k=>LeO.refl _
 | f + 1,i,j,k=>by
  rw [impl_QueuePut.bs,impl_QueuePut.bs]
  exact LeO.ite (LeO.bind (impl_dueOrder.mono _ _ _ _ _ _ _ _ _) (fun c=>LeO.ite (impl_QueuePut.bs_mono l d f _ _ k) (impl_QueuePut.bs_mono l d f _ _ k))) (LeO.refl _)
def impl_QueuePut.is_ (k:Nat) (l:List S25) (d:S25) (m:Nat):Option Bool:=if m < l.length then (impl_dueOrder.f k (l.getD m z25).f0 (l.getD m z25).f1 (l.getD m z25).f2 (l.getD m z25).f3 d.f0 d.f1 d.f2 d.f3).bind fun c=>some (decide (c = 0)) else some false
theorem impl_QueuePut.is_mono (l:List S25) (d:S25) (m k:Nat):LeO (impl_QueuePut.is_ k l d m) (impl_QueuePut.is_ (k + 1) l d m):=by
 rw [impl_QueuePut.is_,impl_QueuePut.is_]
 exact LeO.ite (LeO.bind (impl_dueOrder.mono _ _ _ _ _ _ _ _ _) (fun c=>LeO.refl _)) (LeO.refl _)
set_option maxHeartbeats 8000000 in
set_option maxRecDepth 100000 in
theorem impl_QueuePut.search (k:Nat) (A0:Option Addr) (c0:Nat) (l0:List S25) (d:S25) (at_:Nat) (b_:Bool) (w:World) (hr0:Kd.C k25 w A0 l0.length l0) (hl:l0.length≤1048576) (h1:impl_QueuePut.bs k l0 d (l0.length + 1) 0 l0.length = some at_) (h2:impl_QueuePut.is_ k l0 d at_ = some b_) :
  Calls Try.prog 65 #[.slice A0 l0.length c0,.agg #[.int .i64 d.f0,.int .i64 d.f1,.int .i64 d.f2,.string d.f3],.func (.func 66) #[] #[]] w fun e w'=>e = .returned (.tuple #[.int .i64 (at_:Int),.bool b_])∧Below w.heap.size w w':=by
 have hue_:=Try.underlying25
 have HR0:=Aside0.mk hr0
 have HL:=Aside0.mk hl
 have H1:=Aside0.mk h1
 have H2:=Aside0.mk h2
 clear hr0 hl h1 h2
 go_enter Try.func65,Try.ntmps65
 go_wp2_with ((with_reducible refine gate_dst (N:=4) rfl ?_);refine box_event ?hg (N:=4) ?hd (cs:=#[.int .i64 d.f0,.int .i64 d.f1,.int .i64 d.f2,.string d.f3]) (t:=25) ?hr ?_;(case hd=>rfl);(case hg=>rfl);(case hr=>first|(go_simp;done)|(go_simp;rfl));intro gb hg w1 hbox hb;have HB1:=Aside0.mk hb;have BX1:=Aside0.mk hbox;clear hb hbox hg)
 go_loopg [9,10] l0.length (fun gg s9 s10 wr=>∃ i j f:Nat,s9 = .int .i64 (i:Int)∧s10 = .int .i64 (j:Int)∧Aside0 (i≤j∧j≤l0.length∧j - i < f∧j - i≤gg)∧Aside0 (impl_QueuePut.bs k l0 d f i j = some at_)∧Aside0 (Below w.heap.size w wr)∧Aside0 (wr.heap[gb]? = some (.cells #[.int .i64 d.f0,.int .i64 d.f1,.int .i64 d.f2,.string d.f3] 25 (0,0))))
 case atStart=>exact ⟨0,l0.length,l0.length + 1,rfl,rfl,⟨by omega,by omega,by omega,by omega⟩,H1,HB1,BX1⟩
 case round =>
  obtain ⟨i,j,f,rfl,rfl,IJ,BS,HB,BX⟩:=hrel
  clear HB1 BX1
  have hl:=HL.out
  obtain ⟨f,rfl⟩:∃ f',f = f' + 1:=⟨f - 1,by have:=IJ.out;omega⟩
  have hz0:wr.cell? ⟨gb,0,none⟩ = some (.int .i64 d.f0):=(blk_cell BX.out 0).trans rfl
  have hz1:wr.cell? ⟨gb,1,none⟩ = some (.int .i64 d.f1):=(blk_cell BX.out 1).trans rfl
  have hz2:wr.cell? ⟨gb,2,none⟩ = some (.int .i64 d.f2):=(blk_cell BX.out 2).trans rfl
  have hz3:wr.cell? ⟨gb,3,none⟩ = some (.string d.f3):=(blk_cell BX.out 3).trans rfl
  by_cases hlt:i < j
  ·have hltz:(i:Int) < (j:Int):=by omega
   have hj:=IJ.out.2.1
   obtain ⟨h,hh⟩:∃ h,h = (i + j) / 2:=⟨_,rfl⟩
   obtain ⟨ad,e1,hx0,hx1,hx2,hx3⟩:=at_T25 (Kd.C_below HR0.out HB.out) (h:Int) (by omega) (by omega)
   cases e1
   rw [Int.toNat_natCast] at hx0 hx1 hx2 hx3
   have hd:rd_T25 l0 (h:Int) = l0.getD h z25:=by simp [rd_T25]
   rw [hd] at hx0 hx1 hx2 hx3
   have hbs:=BS.out
   rw [impl_QueuePut.bs,if_pos hlt,← hh] at hbs
   replace hbs:=Option.bind_eq_some_iff.mp hbs
   obtain ⟨c,hcc,hbs⟩:=hbs
   have hhl:(h:Int) < (l0.length:Int):=by omega
   have hh0:(0:Int)≤(h:Int):=by omega
   have hij1:(0:Int)≤(i:Int) + (j:Int):=by omega
   have hij2:(i:Int) + (j:Int)≤4000000:=by omega
   have hm3:((i:Int) + (j:Int)) / 2 = (h:Int):=by omega
   have HH:=Aside0.mk hh
   have J:=Aside0.mk (And.intro hj hlt)
   clear hd hh hj hlt hl BS
   generalize hxx:l0.getD h z25 = x at *
   have HO:=Aside0.mk hcc
   have BS2:=Aside0.mk hbs
   clear hcc hbs hxx
   have hnb:impl_QueuePut.bs k l0 d f (if c < 0 then h + 1 else i) (if c < 0 then j else h) = some at_:=by
    have:=BS2.out
    split at this
    ·rename_i h1;rw [if_pos h1,if_pos h1];exact this
    ·rename_i h1;rw [if_neg h1,if_neg h1];exact this
   have BS3:=Aside0.mk hnb
   clear hnb BS2
   by_cases hc:c < 0
   ·have hcd:decide (c < 0) = true:=decide_eq_true hc
    have hb3:=BS3.out
    rw [if_pos hc,if_pos hc] at hb3
    have BS4:=Aside0.mk hb3
    clear hb3 BS3 hc
    go_upto_region 5 with (fail)
    go_still_tail 6,(by kernel_rfl)
    go_wp2_with (go_at_call 66;(with_reducible refine (impl_dueOrder.calls k _ _ _ _ _ _ _ _ c _ HO.out).mono ?_);rintro e w' ⟨rfl,hb⟩;have HB2:=Aside0.mk (below_step (below_drew HB.out) hb);have BX2:=Aside0.mk (blk_below (blk_drew BX.out) hb);clear hb)
    go_roundg (j - (h + 1))
    case measure=>have:=IJ.out;have:=J.out;have:=HH.out;omega
    case rel=>exact ⟨h + 1,j,f,by first|rfl|go_num,rfl,⟨by have:=J.out;have:=HH.out;omega,J.out.1,by have:=IJ.out;have:=J.out;have:=HH.out;omega,Nat.le_refl _⟩,BS4,HB2,BX2⟩
   ·have hcd:decide (c < 0) = false:=decide_eq_false hc
    have hb3:=BS3.out
    rw [if_neg hc,if_neg hc] at hb3
    have BS4:=Aside0.mk hb3
    clear hb3 BS3 hc
    go_upto_region 5 with (fail)
    go_still_tail 6,(by kernel_rfl)
    go_wp2_with (go_at_call 66;(with_reducible refine (impl_dueOrder.calls k _ _ _ _ _ _ _ _ c _ HO.out).mono ?_);rintro e w' ⟨rfl,hb⟩;have HB2:=Aside0.mk (below_step (below_drew HB.out) hb);have BX2:=Aside0.mk (blk_below (blk_drew BX.out) hb);clear hb)
    go_roundg (h - i)
    case measure=>have:=IJ.out;have:=J.out;have:=HH.out;omega
    case rel=>exact ⟨i,h,f,rfl,rfl,⟨by have:=J.out;have:=HH.out;omega,by have:=J.out;have:=HH.out;omega,by have:=IJ.out;have:=J.out;have:=HH.out;omega,Nat.le_refl _⟩,BS4,HB2,BX2⟩
  ·have hltz:¬ (i:Int) < (j:Int):=by omega
   have hij:j = i:=by have:=IJ.out;omega
   subst hij
   have hat:at_ = j:=by have:=BS.out;rw [impl_QueuePut.bs,if_neg hlt] at this;exact (Option.some.inj this).symm
   subst hat
   have hj:=IJ.out.2.1
   have h2:=H2.out
   rw [impl_QueuePut.is_] at h2
   clear BS hlt H2 H1
   by_cases hjl:at_ < l0.length
   ·rw [if_pos hjl] at h2
    replace h2:=Option.bind_eq_some_iff.mp h2
    obtain ⟨c,hcc,h2⟩:=h2
    obtain rfl:=Option.some.inj h2
    have hjz:(at_:Int) < (l0.length:Int):=by omega
    have hjd:decide ((at_:Int) < (l0.length:Int)) = true:=decide_eq_true hjz
    obtain ⟨ad,e1,hx0,hx1,hx2,hx3⟩:=at_T25 (Kd.C_below HR0.out HB.out) (at_:Int) (by omega) (by omega)
    cases e1
    rw [Int.toNat_natCast] at hx0 hx1 hx2 hx3
    have hd:rd_T25 l0 (at_:Int) = l0.getD at_ z25:=by simp [rd_T25]
    rw [hd] at hx0 hx1 hx2 hx3
    clear hd hl hj hjl h2
    generalize l0.getD at_ z25 = x at *
    have HO:=Aside0.mk hcc
    clear hcc
    go_upto_region 8 with (fail)
    go_region_held3 (fun w'=>w'.cell? ⟨gb,0,none⟩ = some (.int .i64 d.f0)∧w'.cell? ⟨gb,1,none⟩ = some (.int .i64 d.f1)∧w'.cell? ⟨gb,2,none⟩ = some (.int .i64 d.f2)∧w'.cell? ⟨gb,3,none⟩ = some (.string d.f3)∧w'.cell? (ad.add (at_ * 4)) = some (.int .i64 x.f0)∧w'.cell? { block:=(ad.add (at_ * 4)).block,off:=(ad.add (at_ * 4)).off + 1 } = some (.int .i64 x.f1)∧w'.cell? { block:=(ad.add (at_ * 4)).block,off:=(ad.add (at_ * 4)).off + 2 } = some (.int .i64 x.f2)∧w'.cell? { block:=(ad.add (at_ * 4)).block,off:=(ad.add (at_ * 4)).off + 3 } = some (.string x.f3))
     (first|exact ⟨hz0,hz1,hz2,hz3,hx0,hx1,hx2,hx3⟩|exact ⟨hk0,hk1,hk2,hk3,hk4,hk5,hk6,hk7⟩)
     ((first|(go_at_call 66;(with_reducible refine (impl_dueOrder.calls k _ _ _ _ _ _ _ _ c _ HO.out).mono ?_);rintro e w' ⟨rfl,hb⟩;have HB2:=Aside0.mk (below_step (below_drew HB.out) hb);have hk0:=pw_cell_below hb hz0;have hk1:=pw_cell_below hb hz1;have hk2:=pw_cell_below hb hz2;have hk3:=pw_cell_below hb hz3;have hk4:=pw_cell_below hb hx0;have hk5:=pw_cell_below hb hx1;have hk6:=pw_cell_below hb hx2;have hk7:=pw_cell_below hb hx3;clear hb)))
    go_wp2
    go_ret2
    refine ⟨?_,HB2.out⟩
    first|rfl|(congr 4;rw [Bool.eq_iff_iff];simp)|(simp;done)
   ·rw [if_neg hjl] at h2
    obtain rfl:=Option.some.inj h2
    have hjz:¬ (at_:Int) < (l0.length:Int):=by omega
    have hjd:decide ((at_:Int) < (l0.length:Int)) = false:=decide_eq_false hjz
    clear hjl hl hj h2
    go_upto_region 8 with (fail)
    go_quiet (fail)
    go_wp2
    go_ret2
    exact ⟨rfl,pw_below_drewN HB.out _⟩
def impl_QueuePut.f (k:Nat) (l0:List S25) (a1_0 a1_1 a1_2:Int) (a1_3:ByteArray):Option (List S25×Int×Int×Int×ByteArray×Int):=if l0.length≤1048576 then (impl_queueCode.f k l0).bind fun t=>if t = 0 then (impl_QueuePut.bs k l0 (⟨a1_0,a1_1,a1_2,a1_3⟩:S25) (l0.length + 1) 0 l0.length).bind fun m=>(impl_QueuePut.is_ k l0 (⟨a1_0,a1_1,a1_2,a1_3⟩:S25) m).bind fun b=>(impl_isDue.f a1_0 a1_1 a1_2 a1_3).bind fun o=>if o = true then (if b = true then some ([],0,0,0,⟨#[]⟩,7) else if l0.length = 200 then some ([],0,0,0,⟨#[]⟩,9) else if m≤l0.length then some (l0.take m ++ [(⟨a1_0,a1_1,a1_2,a1_3⟩:S25)] ++ l0.drop m,0,0,0,⟨#[]⟩,0) else none) else some ([],0,0,0,⟨#[]⟩,1) else some ([],0,0,0,⟨#[]⟩,t) else none
set_option maxHeartbeats 8000000 in
set_option maxRecDepth 100000 in
theorem impl_QueuePut.calls (k:Nat) (A0:Option Addr) (c0:Nat) (l0:List S25) (a1_0 a1_1 a1_2:Int) (a1_3:ByteArray) (r1:List (S25)) (r2:Int) (r3:Int) (r4:Int) (r5:ByteArray) (r6:Int) (w:World) (hr0:Kd.C k25 w A0 l0.length l0) (hc0:l0.length≤c0) (h:impl_QueuePut.f k l0 a1_0 a1_1 a1_2 a1_3 = some (r1,r2,r3,r4,r5,r6)) :
  Calls Try.prog 8 #[.slice A0 l0.length c0,.agg #[.int .i64 a1_0,.int .i64 a1_1,.int .i64 a1_2,.string a1_3]] w fun e w'=>∃ v0_:Value,e = .returned (.agg #[v0_,.int .i64 r2,.int .i64 r3,.int .i64 r4,.string r5,.int .i64 r6])∧Kd.R k25 25 w' w.heap.size (fun _=>True) v0_ r1∧Below w.heap.size w w':=by
 have huo_:=Try.underlying29
 have hue_:=Try.underlying25
 have HR0:=Aside0.mk hr0
 have HC0:=Aside0.mk hc0
 clear hr0 hc0
 unfold impl_QueuePut.f at h
 by_cases hl:l0.length≤1048576
 ·rw [if_pos hl] at h
  have HL:=Aside0.mk hl
  clear hl
  replace h:=Option.bind_eq_some_iff.mp h
  obtain ⟨t,ht,h⟩:=h
  have AT:=Aside0.mk ht
  clear ht
  by_cases ct:t = 0
  ·rw [if_pos ct] at h
   subst ct
   replace h:=Option.bind_eq_some_iff.mp h
   obtain ⟨m,hm,h⟩:=h
   replace h:=Option.bind_eq_some_iff.mp h
   obtain ⟨b,hb,h⟩:=h
   replace h:=Option.bind_eq_some_iff.mp h
   obtain ⟨o,ho,h⟩:=h
   have HM:=Aside0.mk hm
   have HI:=Aside0.mk hb
   have HO:=Aside0.mk ho
   obtain ⟨t,ht0⟩:∃ t:Int,t = 0:=⟨0,rfl⟩
   have AT:=Aside0.mk (show impl_queueCode.f k l0 = some t by rw [ht0];exact AT.out)
   subst ht0
   clear hm hb ho
   cases o with
   | false =>
    rw [if_neg (by decide)] at h
    simp only [Option.some.injEq,Prod.mk.injEq] at h
    obtain ⟨rfl,rfl,rfl,rfl,rfl,rfl⟩:=h
    go_enter Try.func8,Try.ntmps8
    go_wp2_with (first|((with_reducible refine gate_dst (N:=3) rfl ?_);refine box_event ?hg (N:=3) ?hd (cs:=#[.int .i64 a1_0,.int .i64 a1_1,.int .i64 a1_2,.string a1_3]) (t:=25) ?hr ?_;(case hd=>rfl);(case hg=>rfl);(case hr=>first|(go_simp;done)|(go_simp;rfl));intro gb hg w1 hbox hb;have HB:=Aside0.mk hb;have BX:=Aside0.mk hbox;clear hb hbox hg)|((with_reducible refine gate_dst (N:=4) rfl ?_);refine box_event ?hg (N:=4) ?hd (cs:=#[.slice none 0 0,.int .i64 0,.int .i64 0,.int .i64 0,.string ⟨#[]⟩,.int .i64 0]) (t:=29) ?hr ?_;(case hd=>rfl);(case hg=>rfl);(case hr=>first|(go_simp;done)|(go_simp;rfl));intro gr hg w2 hbox hb;have GR:=Aside0.mk (show w.heap.size≤gr by rw [hg];exact below_size HB.out);have HB2:=Aside0.mk (below_step HB.out hb);have BX2:=Aside0.mk (blk_below BX.out hb);have BK:=Aside0.mk hbox;clear HB BX hb hbox hg;have HB:=HB2;have BX:=BX2;clear HB2 BX2)|(go_at_call 64;(with_reducible refine (impl_queueCode.calls k A0 c0 l0 0 _ (Kd.C_below HR0.out HB.out) HC0.out AT.out).mono ?_);rintro e wc ⟨rfl,hb⟩;have HB2:=Aside0.mk (below_step HB.out hb);have BX2:=Aside0.mk (blk_below BX.out hb);have BK2:=Aside0.mk (blk_below BK.out hb);clear HB BX BK hb;(try clear hcz0 hcz1 hcz2 hcz3 hcz4 hcz5 hfz0 hfz1 hfz2 hfz3 hfz4 hfz5 hdz0 hdz1 hdz2 hdz3);have HB:=HB2;have BX:=BX2;have BK:=BK2;clear HB2 BX2 BK2;have hcz0:wc.cell? ⟨gr,0,none⟩ = some (.slice none 0 0):=(blk_cell BK.out 0).trans rfl;have hcz1:wc.cell? ⟨gr,1,none⟩ = some (.int .i64 0):=(blk_cell BK.out 1).trans rfl;have hcz2:wc.cell? ⟨gr,2,none⟩ = some (.int .i64 0):=(blk_cell BK.out 2).trans rfl;have hcz3:wc.cell? ⟨gr,3,none⟩ = some (.int .i64 0):=(blk_cell BK.out 3).trans rfl;have hcz4:wc.cell? ⟨gr,4,none⟩ = some (.string ⟨#[]⟩):=(blk_cell BK.out 4).trans rfl;have hcz5:wc.cell? ⟨gr,5,none⟩ = some (.int .i64 0):=(blk_cell BK.out 5).trans rfl;have hfz0:=blk_frozen BK.out 0;have hfz1:=blk_frozen BK.out 1;have hfz2:=blk_frozen BK.out 2;have hfz3:=blk_frozen BK.out 3;have hfz4:=blk_frozen BK.out 4;have hfz5:=blk_frozen BK.out 5;have hdz0:wc.cell? ⟨gb,0,none⟩ = some (.int .i64 a1_0):=(blk_cell BX.out 0).trans rfl;have hdz1:wc.cell? ⟨gb,1,none⟩ = some (.int .i64 a1_1):=(blk_cell BX.out 1).trans rfl;have hdz2:wc.cell? ⟨gb,2,none⟩ = some (.int .i64 a1_2):=(blk_cell BX.out 2).trans rfl;have hdz3:wc.cell? ⟨gb,3,none⟩ = some (.string a1_3):=(blk_cell BX.out 3).trans rfl)|(go_at_call 65;refine (impl_QueuePut.search k A0 c0 l0 (⟨a1_0,a1_1,a1_2,a1_3⟩:S25) m b _ (Kd.C_below HR0.out HB.out) HL.out HM.out HI.out).mono ?_;rintro e wc ⟨rfl,hb⟩;have HB2:=Aside0.mk (below_step HB.out hb);have BX2:=Aside0.mk (blk_below BX.out hb);have BK2:=Aside0.mk (blk_below BK.out hb);clear HB BX BK hb;(try clear hcz0 hcz1 hcz2 hcz3 hcz4 hcz5 hfz0 hfz1 hfz2 hfz3 hfz4 hfz5 hdz0 hdz1 hdz2 hdz3);have HB:=HB2;have BX:=BX2;have BK:=BK2;clear HB2 BX2 BK2;have hcz0:wc.cell? ⟨gr,0,none⟩ = some (.slice none 0 0):=(blk_cell BK.out 0).trans rfl;have hcz1:wc.cell? ⟨gr,1,none⟩ = some (.int .i64 0):=(blk_cell BK.out 1).trans rfl;have hcz2:wc.cell? ⟨gr,2,none⟩ = some (.int .i64 0):=(blk_cell BK.out 2).trans rfl;have hcz3:wc.cell? ⟨gr,3,none⟩ = some (.int .i64 0):=(blk_cell BK.out 3).trans rfl;have hcz4:wc.cell? ⟨gr,4,none⟩ = some (.string ⟨#[]⟩):=(blk_cell BK.out 4).trans rfl;have hcz5:wc.cell? ⟨gr,5,none⟩ = some (.int .i64 0):=(blk_cell BK.out 5).trans rfl;have hfz0:=blk_frozen BK.out 0;have hfz1:=blk_frozen BK.out 1;have hfz2:=blk_frozen BK.out 2;have hfz3:=blk_frozen BK.out 3;have hfz4:=blk_frozen BK.out 4;have hfz5:=blk_frozen BK.out 5;have hdz0:wc.cell? ⟨gb,0,none⟩ = some (.int .i64 a1_0):=(blk_cell BX.out 0).trans rfl;have hdz1:wc.cell? ⟨gb,1,none⟩ = some (.int .i64 a1_1):=(blk_cell BX.out 1).trans rfl;have hdz2:wc.cell? ⟨gb,2,none⟩ = some (.int .i64 a1_2):=(blk_cell BX.out 2).trans rfl;have hdz3:wc.cell? ⟨gb,3,none⟩ = some (.string a1_3):=(blk_cell BX.out 3).trans rfl)|(go_at_call 67;(with_reducible refine (impl_isDue.calls a1_0 a1_1 a1_2 a1_3 false _ HO.out).mono ?_);rintro e wc ⟨rfl,hb⟩;have HB2:=Aside0.mk (below_step HB.out hb);have BX2:=Aside0.mk (blk_below BX.out hb);have BK2:=Aside0.mk (blk_below BK.out hb);clear HB BX BK hb;(try clear hcz0 hcz1 hcz2 hcz3 hcz4 hcz5 hfz0 hfz1 hfz2 hfz3 hfz4 hfz5 hdz0 hdz1 hdz2 hdz3);have HB:=HB2;have BX:=BX2;have BK:=BK2;clear HB2 BX2 BK2;have hcz0:wc.cell? ⟨gr,0,none⟩ = some (.slice none 0 0):=(blk_cell BK.out 0).trans rfl;have hcz1:wc.cell? ⟨gr,1,none⟩ = some (.int .i64 0):=(blk_cell BK.out 1).trans rfl;have hcz2:wc.cell? ⟨gr,2,none⟩ = some (.int .i64 0):=(blk_cell BK.out 2).trans rfl;have hcz3:wc.cell? ⟨gr,3,none⟩ = some (.int .i64 0):=(blk_cell BK.out 3).trans rfl;have hcz4:wc.cell? ⟨gr,4,none⟩ = some (.string ⟨#[]⟩):=(blk_cell BK.out 4).trans rfl;have hcz5:wc.cell? ⟨gr,5,none⟩ = some (.int .i64 0):=(blk_cell BK.out 5).trans rfl;have hfz0:=blk_frozen BK.out 0;have hfz1:=blk_frozen BK.out 1;have hfz2:=blk_frozen BK.out 2;have hfz3:=blk_frozen BK.out 3;have hfz4:=blk_frozen BK.out 4;have hfz5:=blk_frozen BK.out 5;have hdz0:wc.cell? ⟨gb,0,none⟩ = some (.int .i64 a1_0):=(blk_cell BX.out 0).trans rfl;have hdz1:wc.cell? ⟨gb,1,none⟩ = some (.int .i64 a1_1):=(blk_cell BX.out 1).trans rfl;have hdz2:wc.cell? ⟨gb,2,none⟩ = some (.int .i64 a1_2):=(blk_cell BX.out 2).trans rfl;have hdz3:wc.cell? ⟨gb,3,none⟩ = some (.string a1_3):=(blk_cell BX.out 3).trans rfl))
    refine bodyPost_ret (results_cell_row rfl _ _ gr 29 #[.slice none 0 0,.int .i64 0,.int .i64 0,.int .i64 0,.string ⟨#[]⟩,.int .i64 _] (0,0) _ rfl (by refine blk_put (cs:=#[.slice none 0 0,.int .i64 0,.int .i64 0,.int .i64 0,.string ⟨#[]⟩,.int .i64 0]) ?_ 5 _ rfl;refine blk_put (cs:=#[.slice none 0 0,.int .i64 0,.int .i64 0,.int .i64 0,.string ⟨#[]⟩,.int .i64 0]) ?_ 4 _ rfl;refine blk_put (cs:=#[.slice none 0 0,.int .i64 0,.int .i64 0,.int .i64 0,.string ⟨#[]⟩,.int .i64 0]) ?_ 3 _ rfl;refine blk_put (cs:=#[.slice none 0 0,.int .i64 0,.int .i64 0,.int .i64 0,.string ⟨#[]⟩,.int .i64 0]) ?_ 2 _ rfl;refine blk_put (cs:=#[.slice none 0 0,.int .i64 0,.int .i64 0,.int .i64 0,.string ⟨#[]⟩,.int .i64 0]) ?_ 1 _ rfl;refine blk_put (cs:=#[.slice none 0 0,.int .i64 0,.int .i64 0,.int .i64 0,.string ⟨#[]⟩,.int .i64 0]) ?_ 0 _ rfl;exact BK.out) Try.underlying29 rfl (by kernel_rfl)) rfl ?_
    exact ⟨_,rfl,Kd.R_nil _ _ _ _ _,below_set (below_set (below_set (below_set (below_set (below_set HB.out GR.out) GR.out) GR.out) GR.out) GR.out) GR.out⟩
   | true =>
    rw [if_pos rfl] at h
    cases b with
    | true =>
     rw [if_pos rfl] at h
     simp only [Option.some.injEq,Prod.mk.injEq] at h
     obtain ⟨rfl,rfl,rfl,rfl,rfl,rfl⟩:=h
     go_enter Try.func8,Try.ntmps8
     go_wp2_with (first|((with_reducible refine gate_dst (N:=3) rfl ?_);refine box_event ?hg (N:=3) ?hd (cs:=#[.int .i64 a1_0,.int .i64 a1_1,.int .i64 a1_2,.string a1_3]) (t:=25) ?hr ?_;(case hd=>rfl);(case hg=>rfl);(case hr=>first|(go_simp;done)|(go_simp;rfl));intro gb hg w1 hbox hb;have HB:=Aside0.mk hb;have BX:=Aside0.mk hbox;clear hb hbox hg)|((with_reducible refine gate_dst (N:=4) rfl ?_);refine box_event ?hg (N:=4) ?hd (cs:=#[.slice none 0 0,.int .i64 0,.int .i64 0,.int .i64 0,.string ⟨#[]⟩,.int .i64 0]) (t:=29) ?hr ?_;(case hd=>rfl);(case hg=>rfl);(case hr=>first|(go_simp;done)|(go_simp;rfl));intro gr hg w2 hbox hb;have GR:=Aside0.mk (show w.heap.size≤gr by rw [hg];exact below_size HB.out);have HB2:=Aside0.mk (below_step HB.out hb);have BX2:=Aside0.mk (blk_below BX.out hb);have BK:=Aside0.mk hbox;clear HB BX hb hbox hg;have HB:=HB2;have BX:=BX2;clear HB2 BX2)|(go_at_call 64;(with_reducible refine (impl_queueCode.calls k A0 c0 l0 0 _ (Kd.C_below HR0.out HB.out) HC0.out AT.out).mono ?_);rintro e wc ⟨rfl,hb⟩;have HB2:=Aside0.mk (below_step HB.out hb);have BX2:=Aside0.mk (blk_below BX.out hb);have BK2:=Aside0.mk (blk_below BK.out hb);clear HB BX BK hb;(try clear hcz0 hcz1 hcz2 hcz3 hcz4 hcz5 hfz0 hfz1 hfz2 hfz3 hfz4 hfz5 hdz0 hdz1 hdz2 hdz3);have HB:=HB2;have BX:=BX2;have BK:=BK2;clear HB2 BX2 BK2;have hcz0:wc.cell? ⟨gr,0,none⟩ = some (.slice none 0 0):=(blk_cell BK.out 0).trans rfl;have hcz1:wc.cell? ⟨gr,1,none⟩ = some (.int .i64 0):=(blk_cell BK.out 1).trans rfl;have hcz2:wc.cell? ⟨gr,2,none⟩ = some (.int .i64 0):=(blk_cell BK.out 2).trans rfl;have hcz3:wc.cell? ⟨gr,3,none⟩ = some (.int .i64 0):=(blk_cell BK.out 3).trans rfl;have hcz4:wc.cell? ⟨gr,4,none⟩ = some (.string ⟨#[]⟩):=(blk_cell BK.out 4).trans rfl;have hcz5:wc.cell? ⟨gr,5,none⟩ = some (.int .i64 0):=(blk_cell BK.out 5).trans rfl;have hfz0:=blk_frozen BK.out 0;have hfz1:=blk_frozen BK.out 1;have hfz2:=blk_frozen BK.out 2;have hfz3:=blk_frozen BK.out 3;have hfz4:=blk_frozen BK.out 4;have hfz5:=blk_frozen BK.out 5;have hdz0:wc.cell? ⟨gb,0,none⟩ = some (.int .i64 a1_0):=(blk_cell BX.out 0).trans rfl;have hdz1:wc.cell? ⟨gb,1,none⟩ = some (.int .i64 a1_1):=(blk_cell BX.out 1).trans rfl;have hdz2:wc.cell? ⟨gb,2,none⟩ = some (.int .i64 a1_2):=(blk_cell BX.out 2).trans rfl;have hdz3:wc.cell? ⟨gb,3,none⟩ = some (.string a1_3):=(blk_cell BX.out 3).trans rfl)|(go_at_call 65;refine (impl_QueuePut.search k A0 c0 l0 (⟨a1_0,a1_1,a1_2,a1_3⟩:S25) m true _ (Kd.C_below HR0.out HB.out) HL.out HM.out HI.out).mono ?_;rintro e wc ⟨rfl,hb⟩;have HB2:=Aside0.mk (below_step HB.out hb);have BX2:=Aside0.mk (blk_below BX.out hb);have BK2:=Aside0.mk (blk_below BK.out hb);clear HB BX BK hb;(try clear hcz0 hcz1 hcz2 hcz3 hcz4 hcz5 hfz0 hfz1 hfz2 hfz3 hfz4 hfz5 hdz0 hdz1 hdz2 hdz3);have HB:=HB2;have BX:=BX2;have BK:=BK2;clear HB2 BX2 BK2;have hcz0:wc.cell? ⟨gr,0,none⟩ = some (.slice none 0 0):=(blk_cell BK.out 0).trans rfl;have hcz1:wc.cell? ⟨gr,1,none⟩ = some (.int .i64 0):=(blk_cell BK.out 1).trans rfl;have hcz2:wc.cell? ⟨gr,2,none⟩ = some (.int .i64 0):=(blk_cell BK.out 2).trans rfl;have hcz3:wc.cell? ⟨gr,3,none⟩ = some (.int .i64 0):=(blk_cell BK.out 3).trans rfl;have hcz4:wc.cell? ⟨gr,4,none⟩ = some (.string ⟨#[]⟩):=(blk_cell BK.out 4).trans rfl;have hcz5:wc.cell? ⟨gr,5,none⟩ = some (.int .i64 0):=(blk_cell BK.out 5).trans rfl;have hfz0:=blk_frozen BK.out 0;have hfz1:=blk_frozen BK.out 1;have hfz2:=blk_frozen BK.out 2;have hfz3:=blk_frozen BK.out 3;have hfz4:=blk_frozen BK.out 4;have hfz5:=blk_frozen BK.out 5;have hdz0:wc.cell? ⟨gb,0,none⟩ = some (.int .i64 a1_0):=(blk_cell BX.out 0).trans rfl;have hdz1:wc.cell? ⟨gb,1,none⟩ = some (.int .i64 a1_1):=(blk_cell BX.out 1).trans rfl;have hdz2:wc.cell? ⟨gb,2,none⟩ = some (.int .i64 a1_2):=(blk_cell BX.out 2).trans rfl;have hdz3:wc.cell? ⟨gb,3,none⟩ = some (.string a1_3):=(blk_cell BX.out 3).trans rfl)|(go_at_call 67;(with_reducible refine (impl_isDue.calls a1_0 a1_1 a1_2 a1_3 true _ HO.out).mono ?_);rintro e wc ⟨rfl,hb⟩;have HB2:=Aside0.mk (below_step HB.out hb);have BX2:=Aside0.mk (blk_below BX.out hb);have BK2:=Aside0.mk (blk_below BK.out hb);clear HB BX BK hb;(try clear hcz0 hcz1 hcz2 hcz3 hcz4 hcz5 hfz0 hfz1 hfz2 hfz3 hfz4 hfz5 hdz0 hdz1 hdz2 hdz3);have HB:=HB2;have BX:=BX2;have BK:=BK2;clear HB2 BX2 BK2;have hcz0:wc.cell? ⟨gr,0,none⟩ = some (.slice none 0 0):=(blk_cell BK.out 0).trans rfl;have hcz1:wc.cell? ⟨gr,1,none⟩ = some (.int .i64 0):=(blk_cell BK.out 1).trans rfl;have hcz2:wc.cell? ⟨gr,2,none⟩ = some (.int .i64 0):=(blk_cell BK.out 2).trans rfl;have hcz3:wc.cell? ⟨gr,3,none⟩ = some (.int .i64 0):=(blk_cell BK.out 3).trans rfl;have hcz4:wc.cell? ⟨gr,4,none⟩ = some (.string ⟨#[]⟩):=(blk_cell BK.out 4).trans rfl;have hcz5:wc.cell? ⟨gr,5,none⟩ = some (.int .i64 0):=(blk_cell BK.out 5).trans rfl;have hfz0:=blk_frozen BK.out 0;have hfz1:=blk_frozen BK.out 1;have hfz2:=blk_frozen BK.out 2;have hfz3:=blk_frozen BK.out 3;have hfz4:=blk_frozen BK.out 4;have hfz5:=blk_frozen BK.out 5;have hdz0:wc.cell? ⟨gb,0,none⟩ = some (.int .i64 a1_0):=(blk_cell BX.out 0).trans rfl;have hdz1:wc.cell? ⟨gb,1,none⟩ = some (.int .i64 a1_1):=(blk_cell BX.out 1).trans rfl;have hdz2:wc.cell? ⟨gb,2,none⟩ = some (.int .i64 a1_2):=(blk_cell BX.out 2).trans rfl;have hdz3:wc.cell? ⟨gb,3,none⟩ = some (.string a1_3):=(blk_cell BX.out 3).trans rfl))
     refine bodyPost_ret (results_cell_row rfl _ _ gr 29 #[.slice none 0 0,.int .i64 0,.int .i64 0,.int .i64 0,.string ⟨#[]⟩,.int .i64 _] (0,0) _ rfl (by refine blk_put (cs:=#[.slice none 0 0,.int .i64 0,.int .i64 0,.int .i64 0,.string ⟨#[]⟩,.int .i64 0]) ?_ 5 _ rfl;refine blk_put (cs:=#[.slice none 0 0,.int .i64 0,.int .i64 0,.int .i64 0,.string ⟨#[]⟩,.int .i64 0]) ?_ 4 _ rfl;refine blk_put (cs:=#[.slice none 0 0,.int .i64 0,.int .i64 0,.int .i64 0,.string ⟨#[]⟩,.int .i64 0]) ?_ 3 _ rfl;refine blk_put (cs:=#[.slice none 0 0,.int .i64 0,.int .i64 0,.int .i64 0,.string ⟨#[]⟩,.int .i64 0]) ?_ 2 _ rfl;refine blk_put (cs:=#[.slice none 0 0,.int .i64 0,.int .i64 0,.int .i64 0,.string ⟨#[]⟩,.int .i64 0]) ?_ 1 _ rfl;refine blk_put (cs:=#[.slice none 0 0,.int .i64 0,.int .i64 0,.int .i64 0,.string ⟨#[]⟩,.int .i64 0]) ?_ 0 _ rfl;exact BK.out) Try.underlying29 rfl (by kernel_rfl)) rfl ?_
     exact ⟨_,rfl,Kd.R_nil _ _ _ _ _,below_set (below_set (below_set (below_set (below_set (below_set HB.out GR.out) GR.out) GR.out) GR.out) GR.out) GR.out⟩
    | false =>
     rw [if_neg (by decide)] at h
     by_cases h2:l0.length = 200
     ·rw [if_pos h2] at h
      simp only [Option.some.injEq,Prod.mk.injEq] at h
      obtain ⟨rfl,rfl,rfl,rfl,rfl,rfl⟩:=h
      have hz2:((l0.length:Int) == 200) = true:=by simp [h2]
      clear h2
      go_enter Try.func8,Try.ntmps8
      go_wp2_with (first|((with_reducible refine gate_dst (N:=3) rfl ?_);refine box_event ?hg (N:=3) ?hd (cs:=#[.int .i64 a1_0,.int .i64 a1_1,.int .i64 a1_2,.string a1_3]) (t:=25) ?hr ?_;(case hd=>rfl);(case hg=>rfl);(case hr=>first|(go_simp;done)|(go_simp;rfl));intro gb hg w1 hbox hb;have HB:=Aside0.mk hb;have BX:=Aside0.mk hbox;clear hb hbox hg)|((with_reducible refine gate_dst (N:=4) rfl ?_);refine box_event ?hg (N:=4) ?hd (cs:=#[.slice none 0 0,.int .i64 0,.int .i64 0,.int .i64 0,.string ⟨#[]⟩,.int .i64 0]) (t:=29) ?hr ?_;(case hd=>rfl);(case hg=>rfl);(case hr=>first|(go_simp;done)|(go_simp;rfl));intro gr hg w2 hbox hb;have GR:=Aside0.mk (show w.heap.size≤gr by rw [hg];exact below_size HB.out);have HB2:=Aside0.mk (below_step HB.out hb);have BX2:=Aside0.mk (blk_below BX.out hb);have BK:=Aside0.mk hbox;clear HB BX hb hbox hg;have HB:=HB2;have BX:=BX2;clear HB2 BX2)|(go_at_call 64;(with_reducible refine (impl_queueCode.calls k A0 c0 l0 0 _ (Kd.C_below HR0.out HB.out) HC0.out AT.out).mono ?_);rintro e wc ⟨rfl,hb⟩;have HB2:=Aside0.mk (below_step HB.out hb);have BX2:=Aside0.mk (blk_below BX.out hb);have BK2:=Aside0.mk (blk_below BK.out hb);clear HB BX BK hb;(try clear hcz0 hcz1 hcz2 hcz3 hcz4 hcz5 hfz0 hfz1 hfz2 hfz3 hfz4 hfz5 hdz0 hdz1 hdz2 hdz3);have HB:=HB2;have BX:=BX2;have BK:=BK2;clear HB2 BX2 BK2;have hcz0:wc.cell? ⟨gr,0,none⟩ = some (.slice none 0 0):=(blk_cell BK.out 0).trans rfl;have hcz1:wc.cell? ⟨gr,1,none⟩ = some (.int .i64 0):=(blk_cell BK.out 1).trans rfl;have hcz2:wc.cell? ⟨gr,2,none⟩ = some (.int .i64 0):=(blk_cell BK.out 2).trans rfl;have hcz3:wc.cell? ⟨gr,3,none⟩ = some (.int .i64 0):=(blk_cell BK.out 3).trans rfl;have hcz4:wc.cell? ⟨gr,4,none⟩ = some (.string ⟨#[]⟩):=(blk_cell BK.out 4).trans rfl;have hcz5:wc.cell? ⟨gr,5,none⟩ = some (.int .i64 0):=(blk_cell BK.out 5).trans rfl;have hfz0:=blk_frozen BK.out 0;have hfz1:=blk_frozen BK.out 1;have hfz2:=blk_frozen BK.out 2;have hfz3:=blk_frozen BK.out 3;have hfz4:=blk_frozen BK.out 4;have hfz5:=blk_frozen BK.out 5;have hdz0:wc.cell? ⟨gb,0,none⟩ = some (.int .i64 a1_0):=(blk_cell BX.out 0).trans rfl;have hdz1:wc.cell? ⟨gb,1,none⟩ = some (.int .i64 a1_1):=(blk_cell BX.out 1).trans rfl;have hdz2:wc.cell? ⟨gb,2,none⟩ = some (.int .i64 a1_2):=(blk_cell BX.out 2).trans rfl;have hdz3:wc.cell? ⟨gb,3,none⟩ = some (.string a1_3):=(blk_cell BX.out 3).trans rfl)|(go_at_call 65;refine (impl_QueuePut.search k A0 c0 l0 (⟨a1_0,a1_1,a1_2,a1_3⟩:S25) m false _ (Kd.C_below HR0.out HB.out) HL.out HM.out HI.out).mono ?_;rintro e wc ⟨rfl,hb⟩;have HB2:=Aside0.mk (below_step HB.out hb);have BX2:=Aside0.mk (blk_below BX.out hb);have BK2:=Aside0.mk (blk_below BK.out hb);clear HB BX BK hb;(try clear hcz0 hcz1 hcz2 hcz3 hcz4 hcz5 hfz0 hfz1 hfz2 hfz3 hfz4 hfz5 hdz0 hdz1 hdz2 hdz3);have HB:=HB2;have BX:=BX2;have BK:=BK2;clear HB2 BX2 BK2;have hcz0:wc.cell? ⟨gr,0,none⟩ = some (.slice none 0 0):=(blk_cell BK.out 0).trans rfl;have hcz1:wc.cell? ⟨gr,1,none⟩ = some (.int .i64 0):=(blk_cell BK.out 1).trans rfl;have hcz2:wc.cell? ⟨gr,2,none⟩ = some (.int .i64 0):=(blk_cell BK.out 2).trans rfl;have hcz3:wc.cell? ⟨gr,3,none⟩ = some (.int .i64 0):=(blk_cell BK.out 3).trans rfl;have hcz4:wc.cell? ⟨gr,4,none⟩ = some (.string ⟨#[]⟩):=(blk_cell BK.out 4).trans rfl;have hcz5:wc.cell? ⟨gr,5,none⟩ = some (.int .i64 0):=(blk_cell BK.out 5).trans rfl;have hfz0:=blk_frozen BK.out 0;have hfz1:=blk_frozen BK.out 1;have hfz2:=blk_frozen BK.out 2;have hfz3:=blk_frozen BK.out 3;have hfz4:=blk_frozen BK.out 4;have hfz5:=blk_frozen BK.out 5;have hdz0:wc.cell? ⟨gb,0,none⟩ = some (.int .i64 a1_0):=(blk_cell BX.out 0).trans rfl;have hdz1:wc.cell? ⟨gb,1,none⟩ = some (.int .i64 a1_1):=(blk_cell BX.out 1).trans rfl;have hdz2:wc.cell? ⟨gb,2,none⟩ = some (.int .i64 a1_2):=(blk_cell BX.out 2).trans rfl;have hdz3:wc.cell? ⟨gb,3,none⟩ = some (.string a1_3):=(blk_cell BX.out 3).trans rfl)|(go_at_call 67;(with_reducible refine (impl_isDue.calls a1_0 a1_1 a1_2 a1_3 true _ HO.out).mono ?_);rintro e wc ⟨rfl,hb⟩;have HB2:=Aside0.mk (below_step HB.out hb);have BX2:=Aside0.mk (blk_below BX.out hb);have BK2:=Aside0.mk (blk_below BK.out hb);clear HB BX BK hb;(try clear hcz0 hcz1 hcz2 hcz3 hcz4 hcz5 hfz0 hfz1 hfz2 hfz3 hfz4 hfz5 hdz0 hdz1 hdz2 hdz3);have HB:=HB2;have BX:=BX2;have BK:=BK2;clear HB2 BX2 BK2;have hcz0:wc.cell? ⟨gr,0,none⟩ = some (.slice none 0 0):=(blk_cell BK.out 0).trans rfl;have hcz1:wc.cell? ⟨gr,1,none⟩ = some (.int .i64 0):=(blk_cell BK.out 1).trans rfl;have hcz2:wc.cell? ⟨gr,2,none⟩ = some (.int .i64 0):=(blk_cell BK.out 2).trans rfl;have hcz3:wc.cell? ⟨gr,3,none⟩ = some (.int .i64 0):=(blk_cell BK.out 3).trans rfl;have hcz4:wc.cell? ⟨gr,4,none⟩ = some (.string ⟨#[]⟩):=(blk_cell BK.out 4).trans rfl;have hcz5:wc.cell? ⟨gr,5,none⟩ = some (.int .i64 0):=(blk_cell BK.out 5).trans rfl;have hfz0:=blk_frozen BK.out 0;have hfz1:=blk_frozen BK.out 1;have hfz2:=blk_frozen BK.out 2;have hfz3:=blk_frozen BK.out 3;have hfz4:=blk_frozen BK.out 4;have hfz5:=blk_frozen BK.out 5;have hdz0:wc.cell? ⟨gb,0,none⟩ = some (.int .i64 a1_0):=(blk_cell BX.out 0).trans rfl;have hdz1:wc.cell? ⟨gb,1,none⟩ = some (.int .i64 a1_1):=(blk_cell BX.out 1).trans rfl;have hdz2:wc.cell? ⟨gb,2,none⟩ = some (.int .i64 a1_2):=(blk_cell BX.out 2).trans rfl;have hdz3:wc.cell? ⟨gb,3,none⟩ = some (.string a1_3):=(blk_cell BX.out 3).trans rfl))
      refine bodyPost_ret (results_cell_row rfl _ _ gr 29 #[.slice none 0 0,.int .i64 0,.int .i64 0,.int .i64 0,.string ⟨#[]⟩,.int .i64 _] (0,0) _ rfl (by refine blk_put (cs:=#[.slice none 0 0,.int .i64 0,.int .i64 0,.int .i64 0,.string ⟨#[]⟩,.int .i64 0]) ?_ 5 _ rfl;refine blk_put (cs:=#[.slice none 0 0,.int .i64 0,.int .i64 0,.int .i64 0,.string ⟨#[]⟩,.int .i64 0]) ?_ 4 _ rfl;refine blk_put (cs:=#[.slice none 0 0,.int .i64 0,.int .i64 0,.int .i64 0,.string ⟨#[]⟩,.int .i64 0]) ?_ 3 _ rfl;refine blk_put (cs:=#[.slice none 0 0,.int .i64 0,.int .i64 0,.int .i64 0,.string ⟨#[]⟩,.int .i64 0]) ?_ 2 _ rfl;refine blk_put (cs:=#[.slice none 0 0,.int .i64 0,.int .i64 0,.int .i64 0,.string ⟨#[]⟩,.int .i64 0]) ?_ 1 _ rfl;refine blk_put (cs:=#[.slice none 0 0,.int .i64 0,.int .i64 0,.int .i64 0,.string ⟨#[]⟩,.int .i64 0]) ?_ 0 _ rfl;exact BK.out) Try.underlying29 rfl (by kernel_rfl)) rfl ?_
      exact ⟨_,rfl,Kd.R_nil _ _ _ _ _,below_set (below_set (below_set (below_set (below_set (below_set HB.out GR.out) GR.out) GR.out) GR.out) GR.out) GR.out⟩
     ·rw [if_neg h2] at h
      by_cases h3:m≤l0.length
      ·rw [if_pos h3] at h
       simp only [Option.some.injEq,Prod.mk.injEq] at h
       obtain ⟨hr1,rfl,rfl,rfl,rfl,rfl⟩:=h
       obtain ⟨ys,hys⟩:∃ ys,ys = l0.take m ++ [(⟨a1_0,a1_1,a1_2,a1_3⟩:S25)] ++ l0.drop m:=⟨_,rfl⟩
       rw [← hys] at hr1
       subst hr1
       have hz2:((l0.length:Int) == 200) = false:=beq_eq_false_iff_ne.2 (by omega)
       have AL:=Aside0.mk (show impl_Due_69.f l0 = some l0 by have:=HL.out;unfold impl_Due_69.f;rw [if_pos (by omega)])
       have H3:=Aside0.mk h3
       have YS:=Aside0.mk hys
       clear h2 h3 hys
       go_enter Try.func8,Try.ntmps8
       go_upto_region 11 with (first|((with_reducible refine gate_dst (N:=3) rfl ?_);refine box_event ?hg (N:=3) ?hd (cs:=#[.int .i64 a1_0,.int .i64 a1_1,.int .i64 a1_2,.string a1_3]) (t:=25) ?hr ?_;(case hd=>rfl);(case hg=>rfl);(case hr=>first|(go_simp;done)|(go_simp;rfl));intro gb hg w1 hbox hb;have HB:=Aside0.mk hb;have BX:=Aside0.mk hbox;clear hb hbox hg)|((with_reducible refine gate_dst (N:=4) rfl ?_);refine box_event ?hg (N:=4) ?hd (cs:=#[.slice none 0 0,.int .i64 0,.int .i64 0,.int .i64 0,.string ⟨#[]⟩,.int .i64 0]) (t:=29) ?hr ?_;(case hd=>rfl);(case hg=>rfl);(case hr=>first|(go_simp;done)|(go_simp;rfl));intro gr hg w2 hbox hb;have GR:=Aside0.mk (show w.heap.size≤gr by rw [hg];exact below_size HB.out);have HB2:=Aside0.mk (below_step HB.out hb);have BX2:=Aside0.mk (blk_below BX.out hb);have BK:=Aside0.mk hbox;clear HB BX hb hbox hg;have HB:=HB2;have BX:=BX2;clear HB2 BX2)|(go_at_call 64;(with_reducible refine (impl_queueCode.calls k A0 c0 l0 0 _ (Kd.C_below HR0.out HB.out) HC0.out AT.out).mono ?_);rintro e wc ⟨rfl,hb⟩;have HB2:=Aside0.mk (below_step HB.out hb);have BX2:=Aside0.mk (blk_below BX.out hb);have BK2:=Aside0.mk (blk_below BK.out hb);clear HB BX BK hb;(try clear hcz0 hcz1 hcz2 hcz3 hcz4 hcz5 hfz0 hfz1 hfz2 hfz3 hfz4 hfz5 hdz0 hdz1 hdz2 hdz3);have HB:=HB2;have BX:=BX2;have BK:=BK2;clear HB2 BX2 BK2;have hcz0:wc.cell? ⟨gr,0,none⟩ = some (.slice none 0 0):=(blk_cell BK.out 0).trans rfl;have hcz1:wc.cell? ⟨gr,1,none⟩ = some (.int .i64 0):=(blk_cell BK.out 1).trans rfl;have hcz2:wc.cell? ⟨gr,2,none⟩ = some (.int .i64 0):=(blk_cell BK.out 2).trans rfl;have hcz3:wc.cell? ⟨gr,3,none⟩ = some (.int .i64 0):=(blk_cell BK.out 3).trans rfl;have hcz4:wc.cell? ⟨gr,4,none⟩ = some (.string ⟨#[]⟩):=(blk_cell BK.out 4).trans rfl;have hcz5:wc.cell? ⟨gr,5,none⟩ = some (.int .i64 0):=(blk_cell BK.out 5).trans rfl;have hfz0:=blk_frozen BK.out 0;have hfz1:=blk_frozen BK.out 1;have hfz2:=blk_frozen BK.out 2;have hfz3:=blk_frozen BK.out 3;have hfz4:=blk_frozen BK.out 4;have hfz5:=blk_frozen BK.out 5;have hdz0:wc.cell? ⟨gb,0,none⟩ = some (.int .i64 a1_0):=(blk_cell BX.out 0).trans rfl;have hdz1:wc.cell? ⟨gb,1,none⟩ = some (.int .i64 a1_1):=(blk_cell BX.out 1).trans rfl;have hdz2:wc.cell? ⟨gb,2,none⟩ = some (.int .i64 a1_2):=(blk_cell BX.out 2).trans rfl;have hdz3:wc.cell? ⟨gb,3,none⟩ = some (.string a1_3):=(blk_cell BX.out 3).trans rfl)|(go_at_call 65;refine (impl_QueuePut.search k A0 c0 l0 (⟨a1_0,a1_1,a1_2,a1_3⟩:S25) m false _ (Kd.C_below HR0.out HB.out) HL.out HM.out HI.out).mono ?_;rintro e wc ⟨rfl,hb⟩;have HB2:=Aside0.mk (below_step HB.out hb);have BX2:=Aside0.mk (blk_below BX.out hb);have BK2:=Aside0.mk (blk_below BK.out hb);clear HB BX BK hb;(try clear hcz0 hcz1 hcz2 hcz3 hcz4 hcz5 hfz0 hfz1 hfz2 hfz3 hfz4 hfz5 hdz0 hdz1 hdz2 hdz3);have HB:=HB2;have BX:=BX2;have BK:=BK2;clear HB2 BX2 BK2;have hcz0:wc.cell? ⟨gr,0,none⟩ = some (.slice none 0 0):=(blk_cell BK.out 0).trans rfl;have hcz1:wc.cell? ⟨gr,1,none⟩ = some (.int .i64 0):=(blk_cell BK.out 1).trans rfl;have hcz2:wc.cell? ⟨gr,2,none⟩ = some (.int .i64 0):=(blk_cell BK.out 2).trans rfl;have hcz3:wc.cell? ⟨gr,3,none⟩ = some (.int .i64 0):=(blk_cell BK.out 3).trans rfl;have hcz4:wc.cell? ⟨gr,4,none⟩ = some (.string ⟨#[]⟩):=(blk_cell BK.out 4).trans rfl;have hcz5:wc.cell? ⟨gr,5,none⟩ = some (.int .i64 0):=(blk_cell BK.out 5).trans rfl;have hfz0:=blk_frozen BK.out 0;have hfz1:=blk_frozen BK.out 1;have hfz2:=blk_frozen BK.out 2;have hfz3:=blk_frozen BK.out 3;have hfz4:=blk_frozen BK.out 4;have hfz5:=blk_frozen BK.out 5;have hdz0:wc.cell? ⟨gb,0,none⟩ = some (.int .i64 a1_0):=(blk_cell BX.out 0).trans rfl;have hdz1:wc.cell? ⟨gb,1,none⟩ = some (.int .i64 a1_1):=(blk_cell BX.out 1).trans rfl;have hdz2:wc.cell? ⟨gb,2,none⟩ = some (.int .i64 a1_2):=(blk_cell BX.out 2).trans rfl;have hdz3:wc.cell? ⟨gb,3,none⟩ = some (.string a1_3):=(blk_cell BX.out 3).trans rfl)|(go_at_call 67;(with_reducible refine (impl_isDue.calls a1_0 a1_1 a1_2 a1_3 true _ HO.out).mono ?_);rintro e wc ⟨rfl,hb⟩;have HB2:=Aside0.mk (below_step HB.out hb);have BX2:=Aside0.mk (blk_below BX.out hb);have BK2:=Aside0.mk (blk_below BK.out hb);clear HB BX BK hb;(try clear hcz0 hcz1 hcz2 hcz3 hcz4 hcz5 hfz0 hfz1 hfz2 hfz3 hfz4 hfz5 hdz0 hdz1 hdz2 hdz3);have HB:=HB2;have BX:=BX2;have BK:=BK2;clear HB2 BX2 BK2;have hcz0:wc.cell? ⟨gr,0,none⟩ = some (.slice none 0 0):=(blk_cell BK.out 0).trans rfl;have hcz1:wc.cell? ⟨gr,1,none⟩ = some (.int .i64 0):=(blk_cell BK.out 1).trans rfl;have hcz2:wc.cell? ⟨gr,2,none⟩ = some (.int .i64 0):=(blk_cell BK.out 2).trans rfl;have hcz3:wc.cell? ⟨gr,3,none⟩ = some (.int .i64 0):=(blk_cell BK.out 3).trans rfl;have hcz4:wc.cell? ⟨gr,4,none⟩ = some (.string ⟨#[]⟩):=(blk_cell BK.out 4).trans rfl;have hcz5:wc.cell? ⟨gr,5,none⟩ = some (.int .i64 0):=(blk_cell BK.out 5).trans rfl;have hfz0:=blk_frozen BK.out 0;have hfz1:=blk_frozen BK.out 1;have hfz2:=blk_frozen BK.out 2;have hfz3:=blk_frozen BK.out 3;have hfz4:=blk_frozen BK.out 4;have hfz5:=blk_frozen BK.out 5;have hdz0:wc.cell? ⟨gb,0,none⟩ = some (.int .i64 a1_0):=(blk_cell BX.out 0).trans rfl;have hdz1:wc.cell? ⟨gb,1,none⟩ = some (.int .i64 a1_1):=(blk_cell BX.out 1).trans rfl;have hdz2:wc.cell? ⟨gb,2,none⟩ = some (.int .i64 a1_2):=(blk_cell BX.out 2).trans rfl;have hdz3:wc.cell? ⟨gb,3,none⟩ = some (.string a1_3):=(blk_cell BX.out 3).trans rfl))
       have hdy0:wc.drew.cell? ⟨gb,0,none⟩ = some (.int .i64 a1_0):=hdz0
       have hdy1:wc.drew.cell? ⟨gb,1,none⟩ = some (.int .i64 a1_1):=hdz1
       have hdy2:wc.drew.cell? ⟨gb,2,none⟩ = some (.int .i64 a1_2):=hdz2
       have hdy3:wc.drew.cell? ⟨gb,3,none⟩ = some (.string a1_3):=hdz3
       have GBR:=Aside0.mk (fun i j:Nat=>show (⟨gb,i,none⟩:Addr).block≠(⟨gr,j,none⟩:Addr).block from blk_ne BX.out BK.out (by decide))
       have CL1:=Aside0.mk (impl_Due_69.calls A0 c0 l0 l0 wc.drew (Kd.C_below HR0.out (by first|exact HB.out.drew|exact (HB.out.alloc (below_size HB.out) _).drew)) HC0.out AL.out)
       have CL2:=Aside0.mk (impl_Due_69.calls A0 c0 l0 l0 (wc.alloc (.cells #[.int .i64 a1_0,.int .i64 a1_1,.int .i64 a1_2,.string a1_3] 25)).drew (Kd.C_below HR0.out (by first|exact HB.out.drew|exact (HB.out.alloc (below_size HB.out) _).drew)) HC0.out AL.out)
       go_region_held3 (fun w'=>w'.cell? ⟨gb,0,none⟩ = some (.int .i64 a1_0)∧w'.cell? ⟨gb,1,none⟩ = some (.int .i64 a1_1)∧w'.cell? ⟨gb,2,none⟩ = some (.int .i64 a1_2)∧w'.cell? ⟨gb,3,none⟩ = some (.string a1_3))
        (first|(with_reducible exact ⟨hk0,hk1,hk2,hk3⟩)|(with_reducible exact ⟨hdz0,hdz1,hdz2,hdz3⟩)|(with_reducible exact ⟨pw_cell_below (below_alloc (Below.refl _ _) _) hk0,pw_cell_below (below_alloc (Below.refl _ _) _) hk1,pw_cell_below (below_alloc (Below.refl _ _) _) hk2,pw_cell_below (below_alloc (Below.refl _ _) _) hk3⟩)|(with_reducible exact ⟨pw_cell_below (below_alloc (Below.refl _ _) _) hdy0,pw_cell_below (below_alloc (Below.refl _ _) _) hdy1,pw_cell_below (below_alloc (Below.refl _ _) _) hdy2,pw_cell_below (below_alloc (Below.refl _ _) _) hdy3⟩)|(with_reducible exact ⟨hdy0,hdy1,hdy2,hdy3⟩)|(with_reducible exact ⟨Go.Proofs.YtaiiikfeaokmhaaH.cell_far (GBR.out 0 5) (Go.Proofs.YtaiiikfeaokmhaaH.cell_far (GBR.out 0 4) (Go.Proofs.YtaiiikfeaokmhaaH.cell_far (GBR.out 0 3) (Go.Proofs.YtaiiikfeaokmhaaH.cell_far (GBR.out 0 2) (Go.Proofs.YtaiiikfeaokmhaaH.cell_far (GBR.out 0 1) (Go.Proofs.YtaiiikfeaokmhaaH.cell_far (GBR.out 0 0) (hk0)))))),Go.Proofs.YtaiiikfeaokmhaaH.cell_far (GBR.out 1 5) (Go.Proofs.YtaiiikfeaokmhaaH.cell_far (GBR.out 1 4) (Go.Proofs.YtaiiikfeaokmhaaH.cell_far (GBR.out 1 3) (Go.Proofs.YtaiiikfeaokmhaaH.cell_far (GBR.out 1 2) (Go.Proofs.YtaiiikfeaokmhaaH.cell_far (GBR.out 1 1) (Go.Proofs.YtaiiikfeaokmhaaH.cell_far (GBR.out 1 0) (hk1)))))),Go.Proofs.YtaiiikfeaokmhaaH.cell_far (GBR.out 2 5) (Go.Proofs.YtaiiikfeaokmhaaH.cell_far (GBR.out 2 4) (Go.Proofs.YtaiiikfeaokmhaaH.cell_far (GBR.out 2 3) (Go.Proofs.YtaiiikfeaokmhaaH.cell_far (GBR.out 2 2) (Go.Proofs.YtaiiikfeaokmhaaH.cell_far (GBR.out 2 1) (Go.Proofs.YtaiiikfeaokmhaaH.cell_far (GBR.out 2 0) (hk2)))))),Go.Proofs.YtaiiikfeaokmhaaH.cell_far (GBR.out 3 5) (Go.Proofs.YtaiiikfeaokmhaaH.cell_far (GBR.out 3 4) (Go.Proofs.YtaiiikfeaokmhaaH.cell_far (GBR.out 3 3) (Go.Proofs.YtaiiikfeaokmhaaH.cell_far (GBR.out 3 2) (Go.Proofs.YtaiiikfeaokmhaaH.cell_far (GBR.out 3 1) (Go.Proofs.YtaiiikfeaokmhaaH.cell_far (GBR.out 3 0) (hk3))))))⟩)|go_keep)
        ((first|(go_at_call 69;(with_reducible refine CL1.out.mono ?_);rintro e w4 ⟨v0,rfl,ho,hb⟩;have S4:=Aside0.mk hb.size;have GRL:=Aside0.mk (show gr < wc.drew.heap.size by have h9:=blk_lt BK.out;first|exact h9|(simp;omega));have GBL:=Aside0.mk (show gb < wc.drew.heap.size by have h9:=blk_lt BX.out;first|exact h9|(simp;omega));have SB:=Aside0.mk (show w.heap.size≤wc.drew.heap.size by have h9:=below_size HB.out;first|exact h9|(simp;omega));have HB4:=Aside0.mk (below_step (w:=w) (show Below w.heap.size w wc.drew from (by first|exact HB.out.drew|exact (HB.out.alloc (below_size HB.out) _).drew)) hb);have BX4:=Aside0.mk (show w4.heap[gb]? = some (.cells #[.int .i64 a1_0,.int .i64 a1_1,.int .i64 a1_2,.string a1_3] 25 (0,0)) from (hb.block gb GBL.out).trans BX.out);have BK4:=Aside0.mk (show w4.heap[gr]? = some (.cells #[.slice none 0 0,.int .i64 0,.int .i64 0,.int .i64 0,.string ⟨#[]⟩,.int .i64 0] 29 (0,0)) from (hb.block gr GRL.out).trans BK.out);have PRE:=Aside0.mk (show Below w.heap.size w (w4.alloc (.cells #[.int .i64 a1_0,.int .i64 a1_1,.int .i64 a1_2,.string a1_3] 25)) from (HB4.out.alloc (below_size HB4.out) _));have BKI:=Aside0.mk (show (w4.alloc (.cells #[.int .i64 a1_0,.int .i64 a1_1,.int .i64 a1_2,.string a1_3] 25)).heap[gr]? = some (.cells #[.slice none 0 0,.int .i64 0,.int .i64 0,.int .i64 0,.string ⟨#[]⟩,.int .i64 0] 29 (0,0)) from (blk_alloc BK4.out _));have BXI:=Aside0.mk (show (w4.alloc (.cells #[.int .i64 a1_0,.int .i64 a1_1,.int .i64 a1_2,.string a1_3] 25)).heap[gb]? = some (.cells #[.int .i64 a1_0,.int .i64 a1_1,.int .i64 a1_2,.string a1_3] 25 (0,0)) from (blk_alloc BX4.out _));have INS:=Aside0.mk (impl_QueuePut.ins v0 l0 m (⟨a1_0,a1_1,a1_2,a1_3⟩:S25) [.int .i64 a1_0,.int .i64 a1_1,.int .i64 a1_2,.string a1_3] w4.heap.size wc.drew.heap.size (w4.alloc (.cells #[.int .i64 a1_0,.int .i64 a1_1,.int .i64 a1_2,.string a1_3] 25)) (Kd.R_alloc ho _) H3.out rfl (fun _ _ _=>k25_mkM _ _ _ (⟨a1_0,a1_1,a1_2,a1_3⟩:S25)) (by intro u hu;simp only [List.mem_cons,List.not_mem_nil,or_false] at hu;rcases hu with rfl|rfl|rfl|rfl <;> rfl) (blk_new w4 _) (by intro e;have:=Kd.R_lt ho _ e;omega) (Nat.le_trans S4.out (by simp)) HL.out);have hk0:w4.cell? ⟨gb,0,none⟩ = some (.int .i64 a1_0):=(blk_cell BX4.out 0).trans rfl;have hk1:w4.cell? ⟨gb,1,none⟩ = some (.int .i64 a1_1):=(blk_cell BX4.out 1).trans rfl;have hk2:w4.cell? ⟨gb,2,none⟩ = some (.int .i64 a1_2):=(blk_cell BX4.out 2).trans rfl;have hk3:w4.cell? ⟨gb,3,none⟩ = some (.string a1_3):=(blk_cell BX4.out 3).trans rfl;clear ho hb)|(go_at_call 69;(with_reducible refine CL2.out.mono ?_);rintro e w4 ⟨v0,rfl,ho,hb⟩;have S4:=Aside0.mk hb.size;have GRL:=Aside0.mk (show gr < (wc.alloc (.cells #[.int .i64 a1_0,.int .i64 a1_1,.int .i64 a1_2,.string a1_3] 25)).drew.heap.size by have h9:=blk_lt BK.out;first|exact h9|(simp;omega));have GBL:=Aside0.mk (show gb < (wc.alloc (.cells #[.int .i64 a1_0,.int .i64 a1_1,.int .i64 a1_2,.string a1_3] 25)).drew.heap.size by have h9:=blk_lt BX.out;first|exact h9|(simp;omega));have SB:=Aside0.mk (show w.heap.size≤(wc.alloc (.cells #[.int .i64 a1_0,.int .i64 a1_1,.int .i64 a1_2,.string a1_3] 25)).drew.heap.size by have h9:=below_size HB.out;first|exact h9|(simp;omega));have HB4:=Aside0.mk (below_step (w:=w) (show Below w.heap.size w (wc.alloc (.cells #[.int .i64 a1_0,.int .i64 a1_1,.int .i64 a1_2,.string a1_3] 25)).drew from (by first|exact HB.out.drew|exact (HB.out.alloc (below_size HB.out) _).drew)) hb);have BX4:=Aside0.mk (show w4.heap[gb]? = some (.cells #[.int .i64 a1_0,.int .i64 a1_1,.int .i64 a1_2,.string a1_3] 25 (0,0)) from (hb.block gb GBL.out).trans (blk_drew (blk_alloc BX.out _)));have BK4:=Aside0.mk (show w4.heap[gr]? = some (.cells #[.slice none 0 0,.int .i64 0,.int .i64 0,.int .i64 0,.string ⟨#[]⟩,.int .i64 0] 29 (0,0)) from (hb.block gr GRL.out).trans (blk_drew (blk_alloc BK.out _)));have PRE:=Aside0.mk (show Below w.heap.size w w4 from HB4.out);have BKI:=Aside0.mk (show w4.heap[gr]? = some (.cells #[.slice none 0 0,.int .i64 0,.int .i64 0,.int .i64 0,.string ⟨#[]⟩,.int .i64 0] 29 (0,0)) from BK4.out);have BXI:=Aside0.mk (show w4.heap[gb]? = some (.cells #[.int .i64 a1_0,.int .i64 a1_1,.int .i64 a1_2,.string a1_3] 25 (0,0)) from BX4.out);have INS:=Aside0.mk (impl_QueuePut.ins v0 l0 m (⟨a1_0,a1_1,a1_2,a1_3⟩:S25) [.int .i64 a1_0,.int .i64 a1_1,.int .i64 a1_2,.string a1_3] wc.heap.size (wc.alloc (.cells #[.int .i64 a1_0,.int .i64 a1_1,.int .i64 a1_2,.string a1_3] 25)).drew.heap.size w4 ho H3.out rfl (fun _ _ _=>k25_mkM _ _ _ (⟨a1_0,a1_1,a1_2,a1_3⟩:S25)) (by intro u hu;simp only [List.mem_cons,List.not_mem_nil,or_false] at hu;rcases hu with rfl|rfl|rfl|rfl <;> rfl) (blk_below (blk_drew (blk_new wc (.cells #[.int .i64 a1_0,.int .i64 a1_1,.int .i64 a1_2,.string a1_3] 25))) hb) (by intro e;have h8:=Kd.R_base ho _ e;have h9:(wc.alloc (.cells #[.int .i64 a1_0,.int .i64 a1_1,.int .i64 a1_2,.string a1_3] 25)).drew.heap.size = wc.heap.size + 1:=(by simp);omega) S4.out HL.out);have hk0:w4.cell? ⟨gb,0,none⟩ = some (.int .i64 a1_0):=(blk_cell BX4.out 0).trans rfl;have hk1:w4.cell? ⟨gb,1,none⟩ = some (.int .i64 a1_1):=(blk_cell BX4.out 1).trans rfl;have hk2:w4.cell? ⟨gb,2,none⟩ = some (.int .i64 a1_2):=(blk_cell BX4.out 2).trans rfl;have hk3:w4.cell? ⟨gb,3,none⟩ = some (.string a1_3):=(blk_cell BX4.out 3).trans rfl;clear ho hb)|(go_at_call 68;(with_reducible refine INS.out.mono ?_);rintro e w8 ⟨v1,rfl,ho,hb⟩;rw [← YS.out] at ho;obtain ⟨Av,cv,rfl⟩:=Kd.R_slice ho;have BK8:=Aside0.mk ((hb.block gr GRL.out).trans BKI.out);have BX8:=Aside0.mk ((hb.block gb GBL.out).trans BXI.out);have RD:=Aside0.mk (Kd.R_lower ho SB.out);have RB:=Aside0.mk (fun k hk=>Kd.R_base ho k hk);have HB8:=Aside0.mk (PRE.out.trans (hb.mono SB.out));clear ho hb;(try clear hcz0 hcz1 hcz2 hcz3 hcz4 hcz5 hfz0 hfz1 hfz2 hfz3 hfz4 hfz5 hdz0 hdz1 hdz2 hdz3);have hcz0:w8.cell? ⟨gr,0,none⟩ = some (.slice none 0 0):=(blk_cell BK8.out 0).trans rfl;have hcz1:w8.cell? ⟨gr,1,none⟩ = some (.int .i64 0):=(blk_cell BK8.out 1).trans rfl;have hcz2:w8.cell? ⟨gr,2,none⟩ = some (.int .i64 0):=(blk_cell BK8.out 2).trans rfl;have hcz3:w8.cell? ⟨gr,3,none⟩ = some (.int .i64 0):=(blk_cell BK8.out 3).trans rfl;have hcz4:w8.cell? ⟨gr,4,none⟩ = some (.string ⟨#[]⟩):=(blk_cell BK8.out 4).trans rfl;have hcz5:w8.cell? ⟨gr,5,none⟩ = some (.int .i64 0):=(blk_cell BK8.out 5).trans rfl;have hfz0:=blk_frozen BK8.out 0;have hfz1:=blk_frozen BK8.out 1;have hfz2:=blk_frozen BK8.out 2;have hfz3:=blk_frozen BK8.out 3;have hfz4:=blk_frozen BK8.out 4;have hfz5:=blk_frozen BK8.out 5;have hk0:w8.cell? ⟨gb,0,none⟩ = some (.int .i64 a1_0):=(blk_cell BX8.out 0).trans rfl;have hk1:w8.cell? ⟨gb,1,none⟩ = some (.int .i64 a1_1):=(blk_cell BX8.out 1).trans rfl;have hk2:w8.cell? ⟨gb,2,none⟩ = some (.int .i64 a1_2):=(blk_cell BX8.out 2).trans rfl;have hk3:w8.cell? ⟨gb,3,none⟩ = some (.string a1_3):=(blk_cell BX8.out 3).trans rfl)))
       all_goals
        go_wp2
        refine bodyPost_ret (results_cell_row rfl _ _ gr 29 #[.slice Av ys.length cv,.int .i64 0,.int .i64 0,.int .i64 0,.string ⟨#[]⟩,.int .i64 0] (0,0) _ rfl (by refine blk_put (cs:=#[.slice Av ys.length cv,.int .i64 0,.int .i64 0,.int .i64 0,.string ⟨#[]⟩,.int .i64 0]) ?_ 5 _ rfl;refine blk_put (cs:=#[.slice Av ys.length cv,.int .i64 0,.int .i64 0,.int .i64 0,.string ⟨#[]⟩,.int .i64 0]) ?_ 4 _ rfl;refine blk_put (cs:=#[.slice Av ys.length cv,.int .i64 0,.int .i64 0,.int .i64 0,.string ⟨#[]⟩,.int .i64 0]) ?_ 3 _ rfl;refine blk_put (cs:=#[.slice Av ys.length cv,.int .i64 0,.int .i64 0,.int .i64 0,.string ⟨#[]⟩,.int .i64 0]) ?_ 2 _ rfl;refine blk_put (cs:=#[.slice Av ys.length cv,.int .i64 0,.int .i64 0,.int .i64 0,.string ⟨#[]⟩,.int .i64 0]) ?_ 1 _ rfl;refine blk_put (cs:=#[.slice none 0 0,.int .i64 0,.int .i64 0,.int .i64 0,.string ⟨#[]⟩,.int .i64 0]) ?_ 0 _ rfl;exact BK8.out) Try.underlying29 rfl (by kernel_rfl)) rfl ?_
        have g3:∀ k,some k = (Value.slice Av ys.length cv).ownBlock→k≠gr:=fun k hk e=>by
         have h1:=RB.out k hk.symm
         have h2:=GRL.out
         omega
        exact ⟨_,rfl,Kd.R_mono (Kd.R_far (p:=⟨gr,5,none⟩) (Kd.R_far (p:=⟨gr,4,none⟩) (Kd.R_far (p:=⟨gr,3,none⟩) (Kd.R_far (p:=⟨gr,2,none⟩) (Kd.R_far (p:=⟨gr,1,none⟩) (Kd.R_far (p:=⟨gr,0,none⟩) (Kd.R_tight rfl RD.out) g3 _) g3 _) g3 _) g3 _) g3 _) g3 _) (fun _ _=>trivial),below_set (below_set (below_set (below_set (below_set (below_set HB8.out GR.out) GR.out) GR.out) GR.out) GR.out) GR.out⟩
      ·rw [if_neg h3] at h
       cases h
  ·rw [if_neg ct] at h
   have ctb:(t != 0) = true:=bne_iff_ne.mpr ct
   have ctb2:(t == 0) = false:=beq_eq_false_iff_ne.mpr ct
   simp only [Option.some.injEq,Prod.mk.injEq] at h
   obtain ⟨rfl,rfl,rfl,rfl,rfl,rfl⟩:=h
   clear ct
   go_enter Try.func8,Try.ntmps8
   go_wp2_with (first|((with_reducible refine gate_dst (N:=3) rfl ?_);refine box_event ?hg (N:=3) ?hd (cs:=#[.int .i64 a1_0,.int .i64 a1_1,.int .i64 a1_2,.string a1_3]) (t:=25) ?hr ?_;(case hd=>rfl);(case hg=>rfl);(case hr=>first|(go_simp;done)|(go_simp;rfl));intro gb hg w1 hbox hb;have HB:=Aside0.mk hb;have BX:=Aside0.mk hbox;clear hb hbox hg)|((with_reducible refine gate_dst (N:=4) rfl ?_);refine box_event ?hg (N:=4) ?hd (cs:=#[.slice none 0 0,.int .i64 0,.int .i64 0,.int .i64 0,.string ⟨#[]⟩,.int .i64 0]) (t:=29) ?hr ?_;(case hd=>rfl);(case hg=>rfl);(case hr=>first|(go_simp;done)|(go_simp;rfl));intro gr hg w2 hbox hb;have GR:=Aside0.mk (show w.heap.size≤gr by rw [hg];exact below_size HB.out);have HB2:=Aside0.mk (below_step HB.out hb);have BX2:=Aside0.mk (blk_below BX.out hb);have BK:=Aside0.mk hbox;clear HB BX hb hbox hg;have HB:=HB2;have BX:=BX2;clear HB2 BX2)|(go_at_call 64;(with_reducible refine (impl_queueCode.calls k A0 c0 l0 t _ (Kd.C_below HR0.out HB.out) HC0.out AT.out).mono ?_);rintro e wc ⟨rfl,hb⟩;have HB2:=Aside0.mk (below_step HB.out hb);have BX2:=Aside0.mk (blk_below BX.out hb);have BK2:=Aside0.mk (blk_below BK.out hb);clear HB BX BK hb;(try clear hcz0 hcz1 hcz2 hcz3 hcz4 hcz5 hfz0 hfz1 hfz2 hfz3 hfz4 hfz5 hdz0 hdz1 hdz2 hdz3);have HB:=HB2;have BX:=BX2;have BK:=BK2;clear HB2 BX2 BK2;have hcz0:wc.cell? ⟨gr,0,none⟩ = some (.slice none 0 0):=(blk_cell BK.out 0).trans rfl;have hcz1:wc.cell? ⟨gr,1,none⟩ = some (.int .i64 0):=(blk_cell BK.out 1).trans rfl;have hcz2:wc.cell? ⟨gr,2,none⟩ = some (.int .i64 0):=(blk_cell BK.out 2).trans rfl;have hcz3:wc.cell? ⟨gr,3,none⟩ = some (.int .i64 0):=(blk_cell BK.out 3).trans rfl;have hcz4:wc.cell? ⟨gr,4,none⟩ = some (.string ⟨#[]⟩):=(blk_cell BK.out 4).trans rfl;have hcz5:wc.cell? ⟨gr,5,none⟩ = some (.int .i64 0):=(blk_cell BK.out 5).trans rfl;have hfz0:=blk_frozen BK.out 0;have hfz1:=blk_frozen BK.out 1;have hfz2:=blk_frozen BK.out 2;have hfz3:=blk_frozen BK.out 3;have hfz4:=blk_frozen BK.out 4;have hfz5:=blk_frozen BK.out 5;have hdz0:wc.cell? ⟨gb,0,none⟩ = some (.int .i64 a1_0):=(blk_cell BX.out 0).trans rfl;have hdz1:wc.cell? ⟨gb,1,none⟩ = some (.int .i64 a1_1):=(blk_cell BX.out 1).trans rfl;have hdz2:wc.cell? ⟨gb,2,none⟩ = some (.int .i64 a1_2):=(blk_cell BX.out 2).trans rfl;have hdz3:wc.cell? ⟨gb,3,none⟩ = some (.string a1_3):=(blk_cell BX.out 3).trans rfl))
   refine bodyPost_ret (results_cell_row rfl _ _ gr 29 #[.slice none 0 0,.int .i64 0,.int .i64 0,.int .i64 0,.string ⟨#[]⟩,.int .i64 _] (0,0) _ rfl (by refine blk_put (cs:=#[.slice none 0 0,.int .i64 0,.int .i64 0,.int .i64 0,.string ⟨#[]⟩,.int .i64 0]) ?_ 5 _ rfl;refine blk_put (cs:=#[.slice none 0 0,.int .i64 0,.int .i64 0,.int .i64 0,.string ⟨#[]⟩,.int .i64 0]) ?_ 4 _ rfl;refine blk_put (cs:=#[.slice none 0 0,.int .i64 0,.int .i64 0,.int .i64 0,.string ⟨#[]⟩,.int .i64 0]) ?_ 3 _ rfl;refine blk_put (cs:=#[.slice none 0 0,.int .i64 0,.int .i64 0,.int .i64 0,.string ⟨#[]⟩,.int .i64 0]) ?_ 2 _ rfl;refine blk_put (cs:=#[.slice none 0 0,.int .i64 0,.int .i64 0,.int .i64 0,.string ⟨#[]⟩,.int .i64 0]) ?_ 1 _ rfl;refine blk_put (cs:=#[.slice none 0 0,.int .i64 0,.int .i64 0,.int .i64 0,.string ⟨#[]⟩,.int .i64 0]) ?_ 0 _ rfl;exact BK.out) Try.underlying29 rfl (by kernel_rfl)) rfl ?_
   exact ⟨_,rfl,Kd.R_nil _ _ _ _ _,below_set (below_set (below_set (below_set (below_set (below_set HB.out GR.out) GR.out) GR.out) GR.out) GR.out) GR.out⟩
 ·rw [if_neg hl] at h
  cases h
def spec_DrawQueueTake.f (k:Nat) (l0:List Int):Option ((List (S25))):=(spec_l01Source.f k l0).bind fun bt349=>((spec_l01Src_l03Queue.f k bt349.1 bt349.2.1 bt349.2.2.1 bt349.2.2.2).bind fun bt354=>(some bt354.1))
set_option maxHeartbeats 8000000 in
set_option maxRecDepth 100000 in
theorem spec_DrawQueueTake.calls (k:Nat) (A0:Option Addr) (c0:Nat) (l0:List Int) (r:List (S25)) (w:World) (hr0:Kd.C (Kd.int .u8) w A0 l0.length l0) (hc0:l0.length≤c0) (h:spec_DrawQueueTake.f k l0 = some r) :
  Calls Try.prog 9 #[.slice A0 l0.length c0] w fun e w'=>∃ v0_:Value,e = .returned (v0_)∧Kd.R k25 25 w' w.heap.size (fun _=>True) v0_ r∧Below w.heap.size w w':=by
 have HR0:=Aside0.mk hr0
 have HC0:=Aside0.mk hc0
 clear hr0 hc0
 have HB:=Aside0.mk (Below.refl w.heap.size w)
 have H:((spec_l01Source.f k l0).bind fun bt349=>((spec_l01Src_l03Queue.f k bt349.1 bt349.2.1 bt349.2.2.1 bt349.2.2.2).bind fun bt354=>(some bt354.1))) = some r:=h
 clear h
 replace H:=Option.bind_eq_some_iff.mp H
 obtain ⟨⟨t349,t350,t351,t352⟩,A20,H⟩:=H
 replace H:((spec_l01Src_l03Queue.f k t349 t350 t351 t352).bind fun bt354=>(some bt354.1)) = some r:=H
 have A2:=Aside0.mk A20
 clear A20
 replace H:=Option.bind_eq_some_iff.mp H
 obtain ⟨⟨t354,t357,t358,t359⟩,A30,H⟩:=H
 replace H:(some t354) = some r:=H
 have A3:=Aside0.mk A30
 clear A30
 obtain rfl:=Option.some.inj H
 go_enter Try.func9,Try.ntmps9
 go_wp2_with (first|((with_reducible refine gate_callee (f:=61) rfl ?_);refine goesL_ (some 4) rfl rfl Try.func61 (by kernel_rfl) rfl #[.slice A0 l0.length c0] rfl (by (try simp only [List.map_toArray,List.map_cons,List.map_nil]);first|done|rfl|(simp only [List.length_drop,List.length_take];rfl)) ?_;(with_reducible refine (spec_l01Source.calls k _ _ l0 t349 t350 t351 t352 w _ ?side1 ?side2 ?side3 A2.out).mono ?_);(case side1=>repeat (first|(with_reducible first|exact HB.out|apply below_alloc|apply pw_below_drewN|apply below_drew1)|exact HB.out));(case side2=>exact HR0.out);(case side3=>exact HC0.out);rintro e w4 ⟨g353,rfl,hi,hb,hb2⟩;refine ⟨_,rfl,?_⟩;have n0_:=Aside0.mk (hb);have n1_:=Aside0.mk (hi);clear HB;have HB:=n0_;have HI353:=n1_;clear n0_ n1_;(try clear hb);(try clear hb2);(try clear hk);(try clear hi))|((with_reducible refine gate_callee (f:=62) rfl ?_);refine goesL_ (some 5) rfl rfl Try.func62 (by kernel_rfl) rfl #[.pointer (some ⟨g353,0,none⟩)] rfl (by (try simp only [List.map_toArray,List.map_cons,List.map_nil]);first|done|rfl|(simp only [List.length_drop,List.length_take];rfl)) ?_;(with_reducible refine (spec_l01Src_l03Queue.calls k g353 t349 t350 t351 t352 t354 t357 t358 t359 w _ ?side1 ?side2 A3.out).mono ?_);(case side1=>repeat (first|(with_reducible first|exact HI353.out|apply IsS134.alloc|apply IsS134.drewN|apply IsS134.drew|apply IsS134.set_1|apply IsS134.set_2|apply IsS134.set_3)|exact HI353.out));(case side2=>repeat (first|(with_reducible first|exact HB.out|apply below_alloc|apply pw_below_drewN|apply below_drew1|refine below_set ?_ (IsS134.ge HI353.out))|exact HB.out));rintro e w5 ⟨v355,rfl,ho0,hi,hb,hk⟩;refine ⟨_,rfl,?_⟩;have n0_:=Aside0.mk (Kd.R_lower ho0 (below_size (by repeat (first|(with_reducible first|exact HB.out|apply below_alloc|apply pw_below_drewN|apply below_drew1|refine below_set ?_ (IsS134.ge HI353.out))|exact HB.out))));have n1_:=Aside0.mk (hb);have n2_:=Aside0.mk (hi);clear HB;clear HI353;have HO356:=n0_;have HB:=n1_;have HI353:=n2_;clear n0_ n1_ n2_;(try clear hb);(try clear hb2);(try clear hk);(try clear hi);(try clear ho0)))
 go_ret
 exact ⟨_,by first|rfl|(simp [errW_none,errW_some] <;> rfl)|(simp [*,errW_none,errW_some] <;> rfl),by (with_reducible repeat (first|apply Kd.R_alloc|apply Kd.R_drewN|apply Kd.R_drew));exact HO356.out,by repeat (first|(with_reducible first|exact HB.out|apply below_alloc|apply pw_below_drewN|apply below_drew1|refine below_set ?_ (IsS134.ge HI353.out))|exact HB.out)⟩
def impl_QueueTake.f (k:Nat) (l0:List (S25)):Option ((List (S25))×Int×Int×Int×ByteArray×Int):=(impl_queueCode.f k l0).bind fun t361=>(if t361 = 0 then (if (l0.length:Int) = 0 then (some (([]:List (S25)),0,0,0,(⟨#[]⟩:ByteArray),6)) else (if 1≤(l0.length:Int) then ((impl_Due_69.f (l0.drop 1)).bind fun t366=>(if 0 < (l0.length:Int) then (some (t366,(rd_T25 l0 0).f0,(rd_T25 l0 0).f1,(rd_T25 l0 0).f2,(rd_T25 l0 0).f3,0)) else (none))) else (none))) else (some (([]:List (S25)),0,0,0,(⟨#[]⟩:ByteArray),t361)))
def impl_QueueTake.T6:Bool×List (List Nat×List Nat):=(true,[([],[]),([0],[0]),([1],[1]),([],[]),([3],[3]),([4],[4]),([2,5],[2,5]),([6,2,0,1,2,3,4,5,6],[6])])
def impl_QueueTake.B6:List Nat:=[0,1,3,0,8,24,63,127]
theorem impl_QueueTake.tab6:rtab .any (opsOf Try.f10 6) = impl_QueueTake.T6:=by kernel_rfl
theorem impl_QueueTake.bits6:waitsOk impl_QueueTake.T6.2 impl_QueueTake.B6 = true:=by kernel_rfl
set_option maxHeartbeats 8000000 in
set_option maxRecDepth 100000 in
theorem impl_QueueTake.calls (k:Nat) (A0:Option Addr) (c0:Nat) (l0:List (S25)) (r1:List (S25)) (r2:Int) (r3:Int) (r4:Int) (r5:ByteArray) (r6:Int) (w:World) (hr0:Kd.C k25 w A0 l0.length l0) (hc0:l0.length≤c0) (h:impl_QueueTake.f k l0 = some (r1,r2,r3,r4,r5,r6)) :
  Calls Try.prog 10 #[.slice A0 l0.length c0] w fun e w'=>∃ v0_:Value,e = .returned (.agg #[v0_,.int .i64 r2,.int .i64 r3,.int .i64 r4,.string r5,.int .i64 r6])∧Kd.R k25 25 w' w.heap.size (fun _=>True) v0_ r1∧Below w.heap.size w w':=by
 have hu29:=Try.underlying29
 have hu25:=Try.underlying25
 have HR0:=Aside0.mk hr0
 have HC0:=Aside0.mk hc0
 clear hr0 hc0
 have HB:=Aside0.mk (Below.refl w.heap.size w)
 have H:((impl_queueCode.f k l0).bind fun t361=>(if t361 = 0 then (if (l0.length:Int) = 0 then (some (([]:List (S25)),0,0,0,(⟨#[]⟩:ByteArray),6)) else (if 1≤(l0.length:Int) then ((impl_Due_69.f (l0.drop 1)).bind fun t366=>(if 0 < (l0.length:Int) then (some (t366,(rd_T25 l0 0).f0,(rd_T25 l0 0).f1,(rd_T25 l0 0).f2,(rd_T25 l0 0).f3,0)) else (none))) else (none))) else (some (([]:List (S25)),0,0,0,(⟨#[]⟩:ByteArray),t361)))) = some (r1,r2,r3,r4,r5,r6):=h
 clear h
 replace H:=Option.bind_eq_some_iff.mp H
 obtain ⟨t361,A20,H⟩:=H
 replace H:(if t361 = 0 then (if (l0.length:Int) = 0 then (some (([]:List (S25)),0,0,0,(⟨#[]⟩:ByteArray),6)) else (if 1≤(l0.length:Int) then ((impl_Due_69.f (l0.drop 1)).bind fun t366=>(if 0 < (l0.length:Int) then (some (t366,(rd_T25 l0 0).f0,(rd_T25 l0 0).f1,(rd_T25 l0 0).f2,(rd_T25 l0 0).f3,0)) else (none))) else (none))) else (some (([]:List (S25)),0,0,0,(⟨#[]⟩:ByteArray),t361))) = some (r1,r2,r3,r4,r5,r6):=H
 have A2:=Aside0.mk A20
 clear A20
 by_cases c3:t361 = 0
 ·rw [if_pos c3] at H
  have c3b0:(t361 == 0) = true:=beq_iff_eq.mpr c3
  have c3b1:(t361 != 0) = false:=bne_eq_false_iff_eq.mpr c3
  clear c3
  by_cases c4:(l0.length:Int) = 0
  ·rw [if_pos c4] at H
   have c4b0:((l0.length:Int) == 0) = true:=beq_iff_eq.mpr c4
   have c4b1:((l0.length:Int) != 0) = false:=bne_eq_false_iff_eq.mpr c4
   clear c4
   simp only [Option.some.injEq,Prod.mk.injEq] at H
   obtain ⟨rfl,rfl,rfl,rfl,rfl,rfl⟩:=H
   go_enter Try.func10,Try.ntmps10
   go_wp2_with (first|((with_reducible refine gate_dst (N:=2) rfl ?_);refine box_event ?hg (N:=2) ?hd (cs:=#[.slice none 0 0,.int .i64 0,.int .i64 0,.int .i64 0,.string (⟨#[]⟩:ByteArray),.int .i64 0]) (t:=29) ?hr ?_;(case hd=>rfl);(case hg=>rfl);(case hr=>first|(go_simp;done)|(go_simp;rfl));intro gb360 hg w5 hbox hb;have n0_:=Aside0.mk (below_step (by repeat (first|(with_reducible first|exact HB.out|apply below_alloc|apply pw_below_drewN|apply below_drew1)|exact HB.out)) hb);have n1_:=Aside0.mk (hbox);have n2_:=Aside0.mk ((by rw [hg];exact (below_size (by repeat (first|(with_reducible first|exact HB.out|apply below_alloc|apply pw_below_drewN|apply below_drew1)|exact HB.out))):w.heap.size≤gb360));have n3_:=Aside0.mk ((by rw [hg];exact (below_size (by repeat (first|(with_reducible first|exact HB.out|apply below_alloc|apply pw_below_drewN|apply below_drew1)|exact HB.out))):w.heap.size≤gb360));clear HB;have HB:=n0_;have BK360:=n1_;have GW360:=n2_;have GE360:=n3_;clear n0_ n1_ n2_ n3_;clear hb hbox hg)|((with_reducible refine gate_callee (f:=64) rfl ?_);refine goesL_ (some 5) rfl rfl Try.func64 (by kernel_rfl) rfl #[.slice A0 l0.length c0] rfl (by (try simp only [List.map_toArray,List.map_cons,List.map_nil]);first|done|rfl|(simp only [List.length_drop,List.length_take];rfl)) ?_;(with_reducible refine (impl_queueCode.calls k _ _ l0 t361 _ ?side1 ?side2 A2.out).mono ?_);(case side1=>repeat (first|exact (Kd.C_below HR0.out HB.out)|(with_reducible refine Kd.C_alloc ?_ _)|(with_reducible refine Kd.C_drewN ?_ _)|(with_reducible refine Kd.C_drew ?_)));(case side2=>exact HC0.out);rintro e w6 ⟨rfl,hb⟩;refine ⟨_,rfl,?_⟩;have n0_:=Aside0.mk (blk_below (g:=gb360) (o:=.cells #[.slice none 0 0,.int .i64 0,.int .i64 0,.int .i64 0,.string (⟨#[]⟩:ByteArray),.int .i64 0] 29 (0,0)) (by (with_reducible repeat (first|refine blk_drewN ?_ _|refine blk_drew ?_|refine blk_alloc ?_ _));exact BK360.out) hb);have n1_:=Aside0.mk (below_step (by repeat (first|(with_reducible first|exact HB.out|apply below_alloc|apply pw_below_drewN|apply below_drew1|refine below_set ?_ GE360.out)|exact HB.out)) hb);clear BK360;clear HB;have BK360:=n0_;have HB:=n1_;clear n0_ n1_;(try clear hb);(try clear hb2);(try clear hk);(try clear hi);have hcz7_0:w6.cell? ⟨gb360,0,none⟩ = some (.slice none 0 0):=(blk_cell BK360.out 0).trans rfl;have hcz7_1:w6.cell? ⟨gb360,1,none⟩ = some (.int .i64 0):=(blk_cell BK360.out 1).trans rfl;have hcz7_2:w6.cell? ⟨gb360,2,none⟩ = some (.int .i64 0):=(blk_cell BK360.out 2).trans rfl;have hcz7_3:w6.cell? ⟨gb360,3,none⟩ = some (.int .i64 0):=(blk_cell BK360.out 3).trans rfl;have hcz7_4:w6.cell? ⟨gb360,4,none⟩ = some (.string (⟨#[]⟩:ByteArray)):=(blk_cell BK360.out 4).trans rfl;have hcz7_5:w6.cell? ⟨gb360,5,none⟩ = some (.int .i64 0):=(blk_cell BK360.out 5).trans rfl;have hfz7_0:=blk_frozen BK360.out 0;have hfz7_1:=blk_frozen BK360.out 1;have hfz7_2:=blk_frozen BK360.out 2;have hfz7_3:=blk_frozen BK360.out 3;have hfz7_4:=blk_frozen BK360.out 4;have hfz7_5:=blk_frozen BK360.out 5))
   refine bodyPost_ret (results_cell_row rfl _ _ gb360 29 #[.slice none 0 0,.int .i64 0,.int .i64 0,.int .i64 0,.string (⟨#[]⟩:ByteArray),.int .i64 6] (0,0) _ rfl (by (with_reducible repeat (first|refine blk_drewN ?_ _|refine blk_drew ?_|refine blk_alloc ?_ _));refine blk_put (cs:=#[.slice none 0 0,.int .i64 0,.int .i64 0,.int .i64 0,.string (⟨#[]⟩:ByteArray),.int .i64 0]) ?_ 5 _ rfl;(with_reducible repeat (first|refine blk_drewN ?_ _|refine blk_drew ?_|refine blk_alloc ?_ _));refine blk_put (cs:=#[.slice none 0 0,.int .i64 0,.int .i64 0,.int .i64 0,.string (⟨#[]⟩:ByteArray),.int .i64 0]) ?_ 4 _ rfl;(with_reducible repeat (first|refine blk_drewN ?_ _|refine blk_drew ?_|refine blk_alloc ?_ _));refine blk_put (cs:=#[.slice none 0 0,.int .i64 0,.int .i64 0,.int .i64 0,.string (⟨#[]⟩:ByteArray),.int .i64 0]) ?_ 3 _ rfl;(with_reducible repeat (first|refine blk_drewN ?_ _|refine blk_drew ?_|refine blk_alloc ?_ _));refine blk_put (cs:=#[.slice none 0 0,.int .i64 0,.int .i64 0,.int .i64 0,.string (⟨#[]⟩:ByteArray),.int .i64 0]) ?_ 2 _ rfl;(with_reducible repeat (first|refine blk_drewN ?_ _|refine blk_drew ?_|refine blk_alloc ?_ _));refine blk_put (cs:=#[.slice none 0 0,.int .i64 0,.int .i64 0,.int .i64 0,.string (⟨#[]⟩:ByteArray),.int .i64 0]) ?_ 1 _ rfl;(with_reducible repeat (first|refine blk_drewN ?_ _|refine blk_drew ?_|refine blk_alloc ?_ _));refine blk_put (cs:=#[.slice none 0 0,.int .i64 0,.int .i64 0,.int .i64 0,.string (⟨#[]⟩:ByteArray),.int .i64 0]) ?_ 0 _ rfl;(with_reducible repeat (first|refine blk_drewN ?_ _|refine blk_drew ?_|refine blk_alloc ?_ _));exact BK360.out) Try.underlying29 rfl (by kernel_rfl)) rfl ?_
   exact ⟨_,by first|rfl|(simp [errW_none,errW_some] <;> rfl)|(simp [*,errW_none,errW_some] <;> rfl),by first|exact Kd.R_nil _ _ _ _ _|exact Kd.N_nil _ _ _ _ _|exact Kd.V_nil _ _ _ _ _|exact Kd.Q_nil _ _ _ _ _|exact Kd.S_nil _ _ _ _ _,by repeat (first|(with_reducible first|exact HB.out|apply below_alloc|apply pw_below_drewN|apply below_drew1|refine below_set ?_ GE360.out)|exact HB.out)⟩
  ·rw [if_neg c4] at H
   have c4b0:((l0.length:Int) == 0) = false:=beq_eq_false_iff_ne.mpr c4
   have c4b1:((l0.length:Int) != 0) = true:=bne_iff_ne.mpr c4
   have c4b2:¬ (l0 = []):=fun h_=>c4 (by rw [h_];rfl)
   by_cases c8:1≤(l0.length:Int)
   ·rw [if_pos c8] at H
    have c8b0:=eq_true c8
    have c8b1:decide (1≤(l0.length:Int)) = true:=decide_eq_true c8
    clear c8
    obtain ⟨y362,hy362⟩:∃ y_:List (S25),y_ = (l0.drop 1):=⟨_,rfl⟩
    replace H:((impl_Due_69.f y362).bind fun t366=>(if 0 < (l0.length:Int) then (some (t366,(rd_T25 l0 0).f0,(rd_T25 l0 0).f1,(rd_T25 l0 0).f2,(rd_T25 l0 0).f3,0)) else (none))) = some (r1,r2,r3,r4,r5,r6):=by first|(rw [hy362];with_reducible exact H)|(have H2_:=(Option.bind_some _ _).symm.trans H;rw [hy362];with_reducible exact H2_)|(have H2_:=(Option.bind_some _ _).symm.trans H;with_reducible exact H2_)|with_reducible exact H|(rw [hy362];exact H)|exact H
    have Ny362:=Aside0.mk hy362
    clear hy362
    replace H:=Option.bind_eq_some_iff.mp H
    obtain ⟨t366,A90,H⟩:=H
    replace H:(if 0 < (l0.length:Int) then (some (t366,(rd_T25 l0 0).f0,(rd_T25 l0 0).f1,(rd_T25 l0 0).f2,(rd_T25 l0 0).f3,0)) else (none)) = some (r1,r2,r3,r4,r5,r6):=H
    have A9:=Aside0.mk A90
    clear A90
    by_cases c10:0 < (l0.length:Int)
    ·rw [if_pos c10] at H
     have c10b0:decide (0 < (l0.length:Int)) = true:=decide_eq_true c10
     have c10b1:decide (0 < l0.length) = true:=decide_eq_true (by omega)
     clear c10
     simp only [Option.some.injEq,Prod.mk.injEq] at H
     obtain ⟨rfl,rfl,rfl,rfl,rfl,rfl⟩:=H
     go_enter Try.func10,Try.ntmps10
     try go_wp2_with (first|((with_reducible refine gate_dst (N:=2) rfl ?_);refine box_event ?hg (N:=2) ?hd (cs:=#[.slice none 0 0,.int .i64 0,.int .i64 0,.int .i64 0,.string (⟨#[]⟩:ByteArray),.int .i64 0]) (t:=29) ?hr ?_;(case hd=>rfl);(case hg=>rfl);(case hr=>first|(go_simp;done)|(go_simp;rfl));intro gb360 hg w11 hbox hb;have n0_:=Aside0.mk (below_step (by repeat (first|(with_reducible first|exact HB.out|apply below_alloc|apply pw_below_drewN|apply below_drew1)|exact HB.out)) hb);have n1_:=Aside0.mk (hbox);have n2_:=Aside0.mk ((by rw [hg];exact (below_size (by repeat (first|(with_reducible first|exact HB.out|apply below_alloc|apply pw_below_drewN|apply below_drew1)|exact HB.out))):w.heap.size≤gb360));have n3_:=Aside0.mk ((by rw [hg];exact (below_size (by repeat (first|(with_reducible first|exact HB.out|apply below_alloc|apply pw_below_drewN|apply below_drew1)|exact HB.out))):w.heap.size≤gb360));clear HB;have HB:=n0_;have BK360:=n1_;have GW360:=n2_;have GE360:=n3_;clear n0_ n1_ n2_ n3_;clear hb hbox hg)|((with_reducible refine gate_callee (f:=64) rfl ?_);refine goesL_ (some 5) rfl rfl Try.func64 (by kernel_rfl) rfl #[.slice A0 l0.length c0] rfl (by (try simp only [List.map_toArray,List.map_cons,List.map_nil]);first|done|rfl|(simp only [List.length_drop,List.length_take];rfl)) ?_;(with_reducible refine (impl_queueCode.calls k _ _ l0 t361 _ ?side1 ?side2 A2.out).mono ?_);(case side1=>repeat (first|exact (Kd.C_below HR0.out HB.out)|(with_reducible refine Kd.C_alloc ?_ _)|(with_reducible refine Kd.C_drewN ?_ _)|(with_reducible refine Kd.C_drew ?_)));(case side2=>exact HC0.out);rintro e w12 ⟨rfl,hb⟩;refine ⟨_,rfl,?_⟩;have n0_:=Aside0.mk (blk_below (g:=gb360) (o:=.cells #[.slice none 0 0,.int .i64 0,.int .i64 0,.int .i64 0,.string (⟨#[]⟩:ByteArray),.int .i64 0] 29 (0,0)) (by (with_reducible repeat (first|refine blk_drewN ?_ _|refine blk_drew ?_|refine blk_alloc ?_ _));exact BK360.out) hb);have n1_:=Aside0.mk (below_step (by repeat (first|(with_reducible first|exact HB.out|apply below_alloc|apply pw_below_drewN|apply below_drew1|refine below_set ?_ GE360.out)|exact HB.out)) hb);clear BK360;clear HB;have BK360:=n0_;have HB:=n1_;clear n0_ n1_;(try clear hb);(try clear hb2);(try clear hk);(try clear hi)))
     have n0_:=Aside0.mk (blk_drew BK360.out)
     have n1_:=Aside0.mk (below_drew1 HB.out)
     clear BK360
     clear HB
     have BK360:=n0_
     have HB:=n1_
     clear n0_ n1_
     have q14:(1:Int)≤((l0.length:Int):Int):=of_decide_eq_true (by first|(with_reducible assumption)|assumption)
     obtain ⟨i014,hi014,_,hsz14,_⟩:=info_parts info25
     have hroom14:l0.length≤c0:=HC0.out
     have hC14:Kd.C k25 _ A0 l0.length l0:=HR0.out
     have hcut14:=cut_from (P:=Try.prog) 23 25 .i64 Try.underlying23 hi014 4 hsz14 A0 l0.length c0 1 (by omega) q14
     have hr14:=Kd.C_drop (m:=(1:Int).toNat) (c:=c0) hC14 (by omega) hroom14
     obtain ⟨A14,hA14⟩:∃ A1,A1 = (if c0 = (1:Int).toNat then A0 else (A0:Option Addr).map (·.add ((1:Int).toNat * 4))):=⟨_,rfl⟩
     obtain ⟨c14,hc14⟩:∃ c1,c1 = c0 - (1:Int).toNat:=⟨_,rfl⟩
     have hy14:y362.length = l0.length - (1:Int).toNat:=(by rw [Ny362.out,List.length_drop] <;> omega)
     rw [show (l0).drop (1:Int).toNat = y362 from Ny362.out.symm] at hr14
     replace hr14:Kd.C k25 _ A14 y362.length y362:=(by rw [hA14];exact hr14)
     rw [← hy14,← hA14,← hc14] at hcut14
     have HR365:=Aside0.mk hr14
     have HC365:=Aside0.mk (show y362.length≤c14 from by rw [hy14,hc14];exact Nat.sub_le_sub_right hroom14 _)
     clear hr14 hC14 hroom14 hi014 hsz14 hc14
     have KY14:=Aside0.mk hy14
     have KA14:=Aside0.mk hA14
     clear hy14 hA14
     replace q14:=eq_true q14
     have p369:0≤(0:Int):=(by omega)
     have q369:0 < (l0.length:Int):=of_decide_eq_true (by first|(with_reducible assumption)|assumption)
     obtain ⟨ad369,e369,hx369_0,hx369_1,hx369_2,hx369_3⟩:=at_T25 HR0.out 0 p369 q369
     have hw369_3:=hx369_3
     (try rw [show ((0:Int)).toNat = 0 from rfl] at hw369_3)
     (try rw [show 0 * 4 = 0 from rfl] at hw369_3)
     (try rw [Addr.add_zero'] at hw369_3)
     have hw369_2:=hx369_2
     (try rw [show ((0:Int)).toNat = 0 from rfl] at hw369_2)
     (try rw [show 0 * 4 = 0 from rfl] at hw369_2)
     (try rw [Addr.add_zero'] at hw369_2)
     have hw369_1:=hx369_1
     (try rw [show ((0:Int)).toNat = 0 from rfl] at hw369_1)
     (try rw [show 0 * 4 = 0 from rfl] at hw369_1)
     (try rw [Addr.add_zero'] at hw369_1)
     have hw369_0:=hx369_0
     (try rw [show ((0:Int)).toNat = 0 from rfl] at hw369_0)
     (try rw [show 0 * 4 = 0 from rfl] at hw369_0)
     (try rw [Addr.add_zero'] at hw369_0)
     cases e369
     have qi369:(0 < l0.length) = True:=eq_true (by omega)
     (try rw [show ((0:Int)).toNat = 0 from rfl] at hx369_0)
     (try rw [show 0 * 4 = 0 from rfl] at hx369_0)
     (try rw [Addr.add_zero'] at hx369_0)
     (try rw [show ((0:Int)).toNat = 0 from rfl] at hx369_1)
     (try rw [show 0 * 4 = 0 from rfl] at hx369_1)
     (try rw [Addr.add_zero'] at hx369_1)
     (try rw [show ((0:Int)).toNat = 0 from rfl] at hx369_2)
     (try rw [show 0 * 4 = 0 from rfl] at hx369_2)
     (try rw [Addr.add_zero'] at hx369_2)
     (try rw [show ((0:Int)).toNat = 0 from rfl] at hx369_3)
     (try rw [show 0 * 4 = 0 from rfl] at hx369_3)
     (try rw [Addr.add_zero'] at hx369_3)
     replace hx369_0:=(HB.out.cell (World.block_lt_of_cell? w _ hx369_0)).trans hx369_0
     replace hx369_1:=(HB.out.cell (World.block_lt_of_cell? w _ hx369_1)).trans hx369_1
     replace hx369_2:=(HB.out.cell (World.block_lt_of_cell? w _ hx369_2)).trans hx369_2
     replace hx369_3:=(HB.out.cell (World.block_lt_of_cell? w _ hx369_3)).trans hx369_3
     replace p369:=eq_true p369
     replace q369:=eq_true q369
     refine start_ (n:=8) (S:=fun w'=>w'.cell? ad369 = some (.int .i64 ((rd_T25 l0 0).f0))∧w'.cell? ⟨ad369.block,ad369.off + 1,none⟩ = some (.int .i64 ((rd_T25 l0 0).f1))∧w'.cell? ⟨ad369.block,ad369.off + 2,none⟩ = some (.int .i64 ((rd_T25 l0 0).f2))∧w'.cell? ⟨ad369.block,ad369.off + 3,none⟩ = some (.string ((rd_T25 l0 0).f3))) (ds:=[]) #[false,false,false,false,false,false,false,false] (by kernel_rfl) rfl rfl ⟨((HB.out.cell (World.block_lt_of_cell? w _ hw369_0)).trans hw369_0),((HB.out.cell (World.block_lt_of_cell? w _ hw369_1)).trans hw369_1),((HB.out.cell (World.block_lt_of_cell? w _ hw369_2)).trans hw369_2),((HB.out.cell (World.block_lt_of_cell? w _ hw369_3)).trans hw369_3)⟩ (fun hHeld=>?_);refine with_tabW impl_QueueTake.tab6 impl_QueueTake.bits6 (fun HT_ HW_=>?_)
     generalize w12.drew = w13 at BK360 HB HR365 hx369_0 hx369_1 hx369_2 hx369_3 hHeld ⊢
     refine pure_ (i:=0) (N:=some 14) (v:=?_) (a':=?_) #[true,false,false,false,false,false,false,false] rfl rfl (any_of HT_.out (by kernel_rfl)) (fun _ _ _ h=>h) (Or.inl ⟨by rfl,?_⟩) ?_ ?_
     rotate_left
     ·intro w'
      go_simp
      with_reducible rfl
     rotate_left
     ·simp only [Act.put,List.setIfInBounds_toArray,List.set_cons_zero,List.set_cons_succ,i64_w,i32_w]
      rfl
     refine pure_ (i:=1) (N:=some 15) (v:=?_) (a':=?_) #[true,true,false,false,false,false,false,false] rfl rfl (any_of HT_.out (by kernel_rfl)) (fun _ _ _ h=>h) (Or.inl ⟨by rfl,?_⟩) ?_ ?_
     rotate_left
     ·intro w'
      go_simp
      with_reducible rfl
     rotate_left
     ·simp only [Act.put,List.setIfInBounds_toArray,List.set_cons_zero,List.set_cons_succ,i64_w,i32_w]
      rfl
     refine pure_ (i:=3) (N:=some 17) (v:=?_) (a':=?_) #[true,true,false,true,false,false,false,false] rfl rfl (any_of HT_.out (by kernel_rfl)) (fun _ _ _ h=>h) (Or.inl ⟨by rfl,?_⟩) ?_ ?_
     rotate_left
     ·intro w'
      go_simp
      with_reducible rfl
     rotate_left
     ·simp only [Act.put,List.setIfInBounds_toArray,List.set_cons_zero,List.set_cons_succ,i64_w,i32_w]
      rfl
     refine pure_ (i:=4) (N:=some 18) (v:=?_) (a':=?_) #[true,true,false,true,true,false,false,false] rfl rfl (any_of HT_.out (by kernel_rfl)) (fun _ _ _ h=>h) (Or.inl ⟨by rfl,?_⟩) ?_ ?_
     rotate_left
     ·intro w'
      go_simp
      with_reducible rfl
     rotate_left
     ·simp only [Act.put,List.setIfInBounds_toArray,List.set_cons_zero,List.set_cons_succ,i64_w,i32_w]
      rfl
     refine take_ (i:=5) (N:=some 19) (v:=?_) (a':=?_) #[true,true,false,true,true,true,false,false] rfl rfl (take_ofW HT_.out HW_.out (by kernel_rfl)) (fun _ _ _ h=>h) (Or.inl ⟨by rfl,?_⟩) hHeld ?_ ?_
     rotate_left
     ·rintro w' ⟨s0,s1,s2,s3⟩
      go_simp
      with_reducible rfl
     rotate_left
     ·simp only [Act.put,List.setIfInBounds_toArray,List.set_cons_zero,List.set_cons_succ,i64_w,i32_w]
      rfl
     refine one_ (i:=2) (N:=some 16) #[true,true,true,true,true,true,false,false] rfl rfl (one_of HT_.out (by kernel_rfl)) (by decide) (fun K hK=>?_)
     refine goes_ Try.func69 (by kernel_rfl) rfl #[.slice A14 y362.length c14] (by rfl) rfl rfl (by (try simp only [List.map_toArray,List.map_cons,List.map_nil]);first|done|rfl|(simp only [List.length_drop,List.length_take];rfl)) ?_
     with_reducible refine (impl_Due_69.calls _ _ y362 t366 _ ?side1 ?side2 A9.out).mono ?_
     (case side1=>repeat (first|exact (Kd.C_below HR365.out HB.out)|(with_reducible refine Kd.C_alloc ?_ _)|(with_reducible refine Kd.C_drewN ?_ _)|(with_reducible refine Kd.C_drew ?_)))
     (case side2=>exact HC365.out)
     rintro e w15 ⟨v367,rfl,ho0,hb⟩
     refine ⟨_,rfl,?_⟩
     have n0_:=Aside0.mk (Kd.R_lower ho0 (below_size (by repeat (first|(with_reducible first|exact HB.out|apply below_alloc|apply pw_below_drewN|apply below_drew1|refine below_set ?_ GE360.out)|exact HB.out))))
     have n1_:=Aside0.mk (blk_below (g:=gb360) (o:=.cells #[.slice none 0 0,.int .i64 0,.int .i64 0,.int .i64 0,.string (⟨#[]⟩:ByteArray),.int .i64 0] 29 (0,0)) (by (with_reducible repeat (first|refine blk_drewN ?_ _|refine blk_drew ?_|refine blk_alloc ?_ _));exact BK360.out) hb)
     have n2_:=Aside0.mk (below_step (by repeat (first|(with_reducible first|exact HB.out|apply below_alloc|apply pw_below_drewN|apply below_drew1|refine below_set ?_ GE360.out)|exact HB.out)) hb)
     clear BK360
     clear HB
     have HO368:=n0_
     have BK360:=n1_
     have HB:=n2_
     clear n0_ n1_ n2_
     (try clear hb)
     (try clear hb2)
     (try clear hk)
     (try clear hi)
     (try clear ho0)
     obtain ⟨Ao16,co16,eo16⟩:=Kd.R_slice HO368.out
     (first|subst eo16|(injection eo16 with f1_ f2_ f3_;have f4_:=f1_.symm;have f5_:=f3_.symm;clear f1_ f2_ f3_;subst f4_;subst f5_))
     refine hK.out _ _ ⟨((HB.out.cell (World.block_lt_of_cell? w _ hw369_0)).trans hw369_0),((HB.out.cell (World.block_lt_of_cell? w _ hw369_1)).trans hw369_1),((HB.out.cell (World.block_lt_of_cell? w _ hw369_2)).trans hw369_2),((HB.out.cell (World.block_lt_of_cell? w _ hw369_3)).trans hw369_3)⟩ (fun hHeld=>?_)
     clear hK K
     refine norm_ (a':=?_) ?_ ?_
     rotate_left
     ·show Act.put _ (some 16) _ = _
      simp only [Act.put,List.setIfInBounds_toArray,List.set_cons_zero,List.set_cons_succ,i64_w,i32_w]
      rfl
     refine pure_ (i:=6) (N:=some 20) (v:=?_) (a':=?_) #[true,true,true,true,true,true,true,false] rfl rfl (any_of HT_.out (by kernel_rfl)) (fun _ _ _ h=>h) (Or.inl ⟨by rfl,?_⟩) ?_ ?_
     rotate_left
     ·intro w'
      go_simp
      with_reducible rfl
     rotate_left
     ·simp only [Act.put,List.setIfInBounds_toArray,List.set_cons_zero,List.set_cons_succ,i64_w,i32_w]
      rfl
     refine one_ (i:=7) (N:=none) #[true,true,true,true,true,true,true,true] rfl rfl (one_of HT_.out (by kernel_rfl)) (by decide) (fun K hK=>?_)
     have hs17:w15.cell? ⟨gb360,0,none⟩ = some (.slice none 0 0):=(blk_cell BK360.out 0).trans rfl
     have hfs17:=blk_frozen BK360.out 0
     have hs18:w15.cell? ⟨gb360,1,none⟩ = some (.int .i64 0):=(blk_cell BK360.out 1).trans rfl
     have hfs18:=blk_frozen BK360.out 1
     have hs19:w15.cell? ⟨gb360,2,none⟩ = some (.int .i64 0):=(blk_cell BK360.out 2).trans rfl
     have hfs19:=blk_frozen BK360.out 2
     have hs20:w15.cell? ⟨gb360,3,none⟩ = some (.int .i64 0):=(blk_cell BK360.out 3).trans rfl
     have hfs20:=blk_frozen BK360.out 3
     have hs21:w15.cell? ⟨gb360,4,none⟩ = some (.string (⟨#[]⟩:ByteArray)):=(blk_cell BK360.out 4).trans rfl
     have hfs21:=blk_frozen BK360.out 4
     have hs22:w15.cell? ⟨gb360,5,none⟩ = some (.int .i64 0):=(blk_cell BK360.out 5).trans rfl
     have hfs22:=blk_frozen BK360.out 5
     refine skip_ (w1:=?_) (by rfl) rfl ?_ ?_
     rotate_left
     ·go_simp
      rfl
     refine hK.out _ _ ⟨((cell_far (p:=⟨gb360,_,none⟩) (by first|exact Nat.ne_of_lt (Nat.lt_of_lt_of_le (by have:=World.block_lt_of_cell? _ _ hw369_0;first|rwa [add_block] at this|exact this) GW360.out)|(rw [add_block];exact Nat.ne_of_lt (Nat.lt_of_lt_of_le (by have:=World.block_lt_of_cell? _ _ hw369_0;first|rwa [add_block] at this|exact this) GW360.out))|(show (Addr.add _ _).block≠_;rw [add_block];exact Nat.ne_of_lt (Nat.lt_of_lt_of_le (by have:=World.block_lt_of_cell? _ _ hw369_0;first|rwa [add_block] at this|exact this) GW360.out))|(dsimp only;exact Nat.ne_of_lt (Nat.lt_of_lt_of_le (by have:=World.block_lt_of_cell? _ _ hw369_0;first|rwa [add_block] at this|exact this) GW360.out))) _).trans (((cell_far (p:=⟨gb360,_,none⟩) (by first|exact Nat.ne_of_lt (Nat.lt_of_lt_of_le (by have:=World.block_lt_of_cell? _ _ hw369_0;first|rwa [add_block] at this|exact this) GW360.out)|(rw [add_block];exact Nat.ne_of_lt (Nat.lt_of_lt_of_le (by have:=World.block_lt_of_cell? _ _ hw369_0;first|rwa [add_block] at this|exact this) GW360.out))|(show (Addr.add _ _).block≠_;rw [add_block];exact Nat.ne_of_lt (Nat.lt_of_lt_of_le (by have:=World.block_lt_of_cell? _ _ hw369_0;first|rwa [add_block] at this|exact this) GW360.out))|(dsimp only;exact Nat.ne_of_lt (Nat.lt_of_lt_of_le (by have:=World.block_lt_of_cell? _ _ hw369_0;first|rwa [add_block] at this|exact this) GW360.out))) _).trans (((cell_far (p:=⟨gb360,_,none⟩) (by first|exact Nat.ne_of_lt (Nat.lt_of_lt_of_le (by have:=World.block_lt_of_cell? _ _ hw369_0;first|rwa [add_block] at this|exact this) GW360.out)|(rw [add_block];exact Nat.ne_of_lt (Nat.lt_of_lt_of_le (by have:=World.block_lt_of_cell? _ _ hw369_0;first|rwa [add_block] at this|exact this) GW360.out))|(show (Addr.add _ _).block≠_;rw [add_block];exact Nat.ne_of_lt (Nat.lt_of_lt_of_le (by have:=World.block_lt_of_cell? _ _ hw369_0;first|rwa [add_block] at this|exact this) GW360.out))|(dsimp only;exact Nat.ne_of_lt (Nat.lt_of_lt_of_le (by have:=World.block_lt_of_cell? _ _ hw369_0;first|rwa [add_block] at this|exact this) GW360.out))) _).trans (((cell_far (p:=⟨gb360,_,none⟩) (by first|exact Nat.ne_of_lt (Nat.lt_of_lt_of_le (by have:=World.block_lt_of_cell? _ _ hw369_0;first|rwa [add_block] at this|exact this) GW360.out)|(rw [add_block];exact Nat.ne_of_lt (Nat.lt_of_lt_of_le (by have:=World.block_lt_of_cell? _ _ hw369_0;first|rwa [add_block] at this|exact this) GW360.out))|(show (Addr.add _ _).block≠_;rw [add_block];exact Nat.ne_of_lt (Nat.lt_of_lt_of_le (by have:=World.block_lt_of_cell? _ _ hw369_0;first|rwa [add_block] at this|exact this) GW360.out))|(dsimp only;exact Nat.ne_of_lt (Nat.lt_of_lt_of_le (by have:=World.block_lt_of_cell? _ _ hw369_0;first|rwa [add_block] at this|exact this) GW360.out))) _).trans (((cell_far (p:=⟨gb360,_,none⟩) (by first|exact Nat.ne_of_lt (Nat.lt_of_lt_of_le (by have:=World.block_lt_of_cell? _ _ hw369_0;first|rwa [add_block] at this|exact this) GW360.out)|(rw [add_block];exact Nat.ne_of_lt (Nat.lt_of_lt_of_le (by have:=World.block_lt_of_cell? _ _ hw369_0;first|rwa [add_block] at this|exact this) GW360.out))|(show (Addr.add _ _).block≠_;rw [add_block];exact Nat.ne_of_lt (Nat.lt_of_lt_of_le (by have:=World.block_lt_of_cell? _ _ hw369_0;first|rwa [add_block] at this|exact this) GW360.out))|(dsimp only;exact Nat.ne_of_lt (Nat.lt_of_lt_of_le (by have:=World.block_lt_of_cell? _ _ hw369_0;first|rwa [add_block] at this|exact this) GW360.out))) _).trans (((cell_far (p:=⟨gb360,_,none⟩) (by first|exact Nat.ne_of_lt (Nat.lt_of_lt_of_le (by have:=World.block_lt_of_cell? _ _ hw369_0;first|rwa [add_block] at this|exact this) GW360.out)|(rw [add_block];exact Nat.ne_of_lt (Nat.lt_of_lt_of_le (by have:=World.block_lt_of_cell? _ _ hw369_0;first|rwa [add_block] at this|exact this) GW360.out))|(show (Addr.add _ _).block≠_;rw [add_block];exact Nat.ne_of_lt (Nat.lt_of_lt_of_le (by have:=World.block_lt_of_cell? _ _ hw369_0;first|rwa [add_block] at this|exact this) GW360.out))|(dsimp only;exact Nat.ne_of_lt (Nat.lt_of_lt_of_le (by have:=World.block_lt_of_cell? _ _ hw369_0;first|rwa [add_block] at this|exact this) GW360.out))) _).trans (hHeld.1)))))))))))),((cell_far (p:=⟨gb360,_,none⟩) (by first|exact Nat.ne_of_lt (Nat.lt_of_lt_of_le (by have:=World.block_lt_of_cell? _ _ hw369_1;first|rwa [add_block] at this|exact this) GW360.out)|(rw [add_block];exact Nat.ne_of_lt (Nat.lt_of_lt_of_le (by have:=World.block_lt_of_cell? _ _ hw369_1;first|rwa [add_block] at this|exact this) GW360.out))|(show (Addr.add _ _).block≠_;rw [add_block];exact Nat.ne_of_lt (Nat.lt_of_lt_of_le (by have:=World.block_lt_of_cell? _ _ hw369_1;first|rwa [add_block] at this|exact this) GW360.out))|(dsimp only;exact Nat.ne_of_lt (Nat.lt_of_lt_of_le (by have:=World.block_lt_of_cell? _ _ hw369_1;first|rwa [add_block] at this|exact this) GW360.out))) _).trans (((cell_far (p:=⟨gb360,_,none⟩) (by first|exact Nat.ne_of_lt (Nat.lt_of_lt_of_le (by have:=World.block_lt_of_cell? _ _ hw369_1;first|rwa [add_block] at this|exact this) GW360.out)|(rw [add_block];exact Nat.ne_of_lt (Nat.lt_of_lt_of_le (by have:=World.block_lt_of_cell? _ _ hw369_1;first|rwa [add_block] at this|exact this) GW360.out))|(show (Addr.add _ _).block≠_;rw [add_block];exact Nat.ne_of_lt (Nat.lt_of_lt_of_le (by have:=World.block_lt_of_cell? _ _ hw369_1;first|rwa [add_block] at this|exact this) GW360.out))|(dsimp only;exact Nat.ne_of_lt (Nat.lt_of_lt_of_le (by have:=World.block_lt_of_cell? _ _ hw369_1;first|rwa [add_block] at this|exact this) GW360.out))) _).trans (((cell_far (p:=⟨gb360,_,none⟩) (by first|exact Nat.ne_of_lt (Nat.lt_of_lt_of_le (by have:=World.block_lt_of_cell? _ _ hw369_1;first|rwa [add_block] at this|exact this) GW360.out)|(rw [add_block];exact Nat.ne_of_lt (Nat.lt_of_lt_of_le (by have:=World.block_lt_of_cell? _ _ hw369_1;first|rwa [add_block] at this|exact this) GW360.out))|(show (Addr.add _ _).block≠_;rw [add_block];exact Nat.ne_of_lt (Nat.lt_of_lt_of_le (by have:=World.block_lt_of_cell? _ _ hw369_1;first|rwa [add_block] at this|exact this) GW360.out))|(dsimp only;exact Nat.ne_of_lt (Nat.lt_of_lt_of_le (by have:=World.block_lt_of_cell? _ _ hw369_1;first|rwa [add_block] at this|exact this) GW360.out))) _).trans (((cell_far (p:=⟨gb360,_,none⟩) (by first|exact Nat.ne_of_lt (Nat.lt_of_lt_of_le (by have:=World.block_lt_of_cell? _ _ hw369_1;first|rwa [add_block] at this|exact this) GW360.out)|(rw [add_block];exact Nat.ne_of_lt (Nat.lt_of_lt_of_le (by have:=World.block_lt_of_cell? _ _ hw369_1;first|rwa [add_block] at this|exact this) GW360.out))|(show (Addr.add _ _).block≠_;rw [add_block];exact Nat.ne_of_lt (Nat.lt_of_lt_of_le (by have:=World.block_lt_of_cell? _ _ hw369_1;first|rwa [add_block] at this|exact this) GW360.out))|(dsimp only;exact Nat.ne_of_lt (Nat.lt_of_lt_of_le (by have:=World.block_lt_of_cell? _ _ hw369_1;first|rwa [add_block] at this|exact this) GW360.out))) _).trans (((cell_far (p:=⟨gb360,_,none⟩) (by first|exact Nat.ne_of_lt (Nat.lt_of_lt_of_le (by have:=World.block_lt_of_cell? _ _ hw369_1;first|rwa [add_block] at this|exact this) GW360.out)|(rw [add_block];exact Nat.ne_of_lt (Nat.lt_of_lt_of_le (by have:=World.block_lt_of_cell? _ _ hw369_1;first|rwa [add_block] at this|exact this) GW360.out))|(show (Addr.add _ _).block≠_;rw [add_block];exact Nat.ne_of_lt (Nat.lt_of_lt_of_le (by have:=World.block_lt_of_cell? _ _ hw369_1;first|rwa [add_block] at this|exact this) GW360.out))|(dsimp only;exact Nat.ne_of_lt (Nat.lt_of_lt_of_le (by have:=World.block_lt_of_cell? _ _ hw369_1;first|rwa [add_block] at this|exact this) GW360.out))) _).trans (((cell_far (p:=⟨gb360,_,none⟩) (by first|exact Nat.ne_of_lt (Nat.lt_of_lt_of_le (by have:=World.block_lt_of_cell? _ _ hw369_1;first|rwa [add_block] at this|exact this) GW360.out)|(rw [add_block];exact Nat.ne_of_lt (Nat.lt_of_lt_of_le (by have:=World.block_lt_of_cell? _ _ hw369_1;first|rwa [add_block] at this|exact this) GW360.out))|(show (Addr.add _ _).block≠_;rw [add_block];exact Nat.ne_of_lt (Nat.lt_of_lt_of_le (by have:=World.block_lt_of_cell? _ _ hw369_1;first|rwa [add_block] at this|exact this) GW360.out))|(dsimp only;exact Nat.ne_of_lt (Nat.lt_of_lt_of_le (by have:=World.block_lt_of_cell? _ _ hw369_1;first|rwa [add_block] at this|exact this) GW360.out))) _).trans (hHeld.2.1)))))))))))),((cell_far (p:=⟨gb360,_,none⟩) (by first|exact Nat.ne_of_lt (Nat.lt_of_lt_of_le (by have:=World.block_lt_of_cell? _ _ hw369_2;first|rwa [add_block] at this|exact this) GW360.out)|(rw [add_block];exact Nat.ne_of_lt (Nat.lt_of_lt_of_le (by have:=World.block_lt_of_cell? _ _ hw369_2;first|rwa [add_block] at this|exact this) GW360.out))|(show (Addr.add _ _).block≠_;rw [add_block];exact Nat.ne_of_lt (Nat.lt_of_lt_of_le (by have:=World.block_lt_of_cell? _ _ hw369_2;first|rwa [add_block] at this|exact this) GW360.out))|(dsimp only;exact Nat.ne_of_lt (Nat.lt_of_lt_of_le (by have:=World.block_lt_of_cell? _ _ hw369_2;first|rwa [add_block] at this|exact this) GW360.out))) _).trans (((cell_far (p:=⟨gb360,_,none⟩) (by first|exact Nat.ne_of_lt (Nat.lt_of_lt_of_le (by have:=World.block_lt_of_cell? _ _ hw369_2;first|rwa [add_block] at this|exact this) GW360.out)|(rw [add_block];exact Nat.ne_of_lt (Nat.lt_of_lt_of_le (by have:=World.block_lt_of_cell? _ _ hw369_2;first|rwa [add_block] at this|exact this) GW360.out))|(show (Addr.add _ _).block≠_;rw [add_block];exact Nat.ne_of_lt (Nat.lt_of_lt_of_le (by have:=World.block_lt_of_cell? _ _ hw369_2;first|rwa [add_block] at this|exact this) GW360.out))|(dsimp only;exact Nat.ne_of_lt (Nat.lt_of_lt_of_le (by have:=World.block_lt_of_cell? _ _ hw369_2;first|rwa [add_block] at this|exact this) GW360.out))) _).trans (((cell_far (p:=⟨gb360,_,none⟩) (by first|exact Nat.ne_of_lt (Nat.lt_of_lt_of_le (by have:=World.block_lt_of_cell? _ _ hw369_2;first|rwa [add_block] at this|exact this) GW360.out)|(rw [add_block];exact Nat.ne_of_lt (Nat.lt_of_lt_of_le (by have:=World.block_lt_of_cell? _ _ hw369_2;first|rwa [add_block] at this|exact this) GW360.out))|(show (Addr.add _ _).block≠_;rw [add_block];exact Nat.ne_of_lt (Nat.lt_of_lt_of_le (by have:=World.block_lt_of_cell? _ _ hw369_2;first|rwa [add_block] at this|exact this) GW360.out))|(dsimp only;exact Nat.ne_of_lt (Nat.lt_of_lt_of_le (by have:=World.block_lt_of_cell? _ _ hw369_2;first|rwa [add_block] at this|exact this) GW360.out))) _).trans (((cell_far (p:=⟨gb360,_,none⟩) (by first|exact Nat.ne_of_lt (Nat.lt_of_lt_of_le (by have:=World.block_lt_of_cell? _ _ hw369_2;first|rwa [add_block] at this|exact this) GW360.out)|(rw [add_block];exact Nat.ne_of_lt (Nat.lt_of_lt_of_le (by have:=World.block_lt_of_cell? _ _ hw369_2;first|rwa [add_block] at this|exact this) GW360.out))|(show (Addr.add _ _).block≠_;rw [add_block];exact Nat.ne_of_lt (Nat.lt_of_lt_of_le (by have:=World.block_lt_of_cell? _ _ hw369_2;first|rwa [add_block] at this|exact this) GW360.out))|(dsimp only;exact Nat.ne_of_lt (Nat.lt_of_lt_of_le (by have:=World.block_lt_of_cell? _ _ hw369_2;first|rwa [add_block] at this|exact this) GW360.out))) _).trans (((cell_far (p:=⟨gb360,_,none⟩) (by first|exact Nat.ne_of_lt (Nat.lt_of_lt_of_le (by have:=World.block_lt_of_cell? _ _ hw369_2;first|rwa [add_block] at this|exact this) GW360.out)|(rw [add_block];exact Nat.ne_of_lt (Nat.lt_of_lt_of_le (by have:=World.block_lt_of_cell? _ _ hw369_2;first|rwa [add_block] at this|exact this) GW360.out))|(show (Addr.add _ _).block≠_;rw [add_block];exact Nat.ne_of_lt (Nat.lt_of_lt_of_le (by have:=World.block_lt_of_cell? _ _ hw369_2;first|rwa [add_block] at this|exact this) GW360.out))|(dsimp only;exact Nat.ne_of_lt (Nat.lt_of_lt_of_le (by have:=World.block_lt_of_cell? _ _ hw369_2;first|rwa [add_block] at this|exact this) GW360.out))) _).trans (((cell_far (p:=⟨gb360,_,none⟩) (by first|exact Nat.ne_of_lt (Nat.lt_of_lt_of_le (by have:=World.block_lt_of_cell? _ _ hw369_2;first|rwa [add_block] at this|exact this) GW360.out)|(rw [add_block];exact Nat.ne_of_lt (Nat.lt_of_lt_of_le (by have:=World.block_lt_of_cell? _ _ hw369_2;first|rwa [add_block] at this|exact this) GW360.out))|(show (Addr.add _ _).block≠_;rw [add_block];exact Nat.ne_of_lt (Nat.lt_of_lt_of_le (by have:=World.block_lt_of_cell? _ _ hw369_2;first|rwa [add_block] at this|exact this) GW360.out))|(dsimp only;exact Nat.ne_of_lt (Nat.lt_of_lt_of_le (by have:=World.block_lt_of_cell? _ _ hw369_2;first|rwa [add_block] at this|exact this) GW360.out))) _).trans (hHeld.2.2.1)))))))))))),((cell_far (p:=⟨gb360,_,none⟩) (by first|exact Nat.ne_of_lt (Nat.lt_of_lt_of_le (by have:=World.block_lt_of_cell? _ _ hw369_3;first|rwa [add_block] at this|exact this) GW360.out)|(rw [add_block];exact Nat.ne_of_lt (Nat.lt_of_lt_of_le (by have:=World.block_lt_of_cell? _ _ hw369_3;first|rwa [add_block] at this|exact this) GW360.out))|(show (Addr.add _ _).block≠_;rw [add_block];exact Nat.ne_of_lt (Nat.lt_of_lt_of_le (by have:=World.block_lt_of_cell? _ _ hw369_3;first|rwa [add_block] at this|exact this) GW360.out))|(dsimp only;exact Nat.ne_of_lt (Nat.lt_of_lt_of_le (by have:=World.block_lt_of_cell? _ _ hw369_3;first|rwa [add_block] at this|exact this) GW360.out))) _).trans (((cell_far (p:=⟨gb360,_,none⟩) (by first|exact Nat.ne_of_lt (Nat.lt_of_lt_of_le (by have:=World.block_lt_of_cell? _ _ hw369_3;first|rwa [add_block] at this|exact this) GW360.out)|(rw [add_block];exact Nat.ne_of_lt (Nat.lt_of_lt_of_le (by have:=World.block_lt_of_cell? _ _ hw369_3;first|rwa [add_block] at this|exact this) GW360.out))|(show (Addr.add _ _).block≠_;rw [add_block];exact Nat.ne_of_lt (Nat.lt_of_lt_of_le (by have:=World.block_lt_of_cell? _ _ hw369_3;first|rwa [add_block] at this|exact this) GW360.out))|(dsimp only;exact Nat.ne_of_lt (Nat.lt_of_lt_of_le (by have:=World.block_lt_of_cell? _ _ hw369_3;first|rwa [add_block] at this|exact this) GW360.out))) _).trans (((cell_far (p:=⟨gb360,_,none⟩) (by first|exact Nat.ne_of_lt (Nat.lt_of_lt_of_le (by have:=World.block_lt_of_cell? _ _ hw369_3;first|rwa [add_block] at this|exact this) GW360.out)|(rw [add_block];exact Nat.ne_of_lt (Nat.lt_of_lt_of_le (by have:=World.block_lt_of_cell? _ _ hw369_3;first|rwa [add_block] at this|exact this) GW360.out))|(show (Addr.add _ _).block≠_;rw [add_block];exact Nat.ne_of_lt (Nat.lt_of_lt_of_le (by have:=World.block_lt_of_cell? _ _ hw369_3;first|rwa [add_block] at this|exact this) GW360.out))|(dsimp only;exact Nat.ne_of_lt (Nat.lt_of_lt_of_le (by have:=World.block_lt_of_cell? _ _ hw369_3;first|rwa [add_block] at this|exact this) GW360.out))) _).trans (((cell_far (p:=⟨gb360,_,none⟩) (by first|exact Nat.ne_of_lt (Nat.lt_of_lt_of_le (by have:=World.block_lt_of_cell? _ _ hw369_3;first|rwa [add_block] at this|exact this) GW360.out)|(rw [add_block];exact Nat.ne_of_lt (Nat.lt_of_lt_of_le (by have:=World.block_lt_of_cell? _ _ hw369_3;first|rwa [add_block] at this|exact this) GW360.out))|(show (Addr.add _ _).block≠_;rw [add_block];exact Nat.ne_of_lt (Nat.lt_of_lt_of_le (by have:=World.block_lt_of_cell? _ _ hw369_3;first|rwa [add_block] at this|exact this) GW360.out))|(dsimp only;exact Nat.ne_of_lt (Nat.lt_of_lt_of_le (by have:=World.block_lt_of_cell? _ _ hw369_3;first|rwa [add_block] at this|exact this) GW360.out))) _).trans (((cell_far (p:=⟨gb360,_,none⟩) (by first|exact Nat.ne_of_lt (Nat.lt_of_lt_of_le (by have:=World.block_lt_of_cell? _ _ hw369_3;first|rwa [add_block] at this|exact this) GW360.out)|(rw [add_block];exact Nat.ne_of_lt (Nat.lt_of_lt_of_le (by have:=World.block_lt_of_cell? _ _ hw369_3;first|rwa [add_block] at this|exact this) GW360.out))|(show (Addr.add _ _).block≠_;rw [add_block];exact Nat.ne_of_lt (Nat.lt_of_lt_of_le (by have:=World.block_lt_of_cell? _ _ hw369_3;first|rwa [add_block] at this|exact this) GW360.out))|(dsimp only;exact Nat.ne_of_lt (Nat.lt_of_lt_of_le (by have:=World.block_lt_of_cell? _ _ hw369_3;first|rwa [add_block] at this|exact this) GW360.out))) _).trans (((cell_far (p:=⟨gb360,_,none⟩) (by first|exact Nat.ne_of_lt (Nat.lt_of_lt_of_le (by have:=World.block_lt_of_cell? _ _ hw369_3;first|rwa [add_block] at this|exact this) GW360.out)|(rw [add_block];exact Nat.ne_of_lt (Nat.lt_of_lt_of_le (by have:=World.block_lt_of_cell? _ _ hw369_3;first|rwa [add_block] at this|exact this) GW360.out))|(show (Addr.add _ _).block≠_;rw [add_block];exact Nat.ne_of_lt (Nat.lt_of_lt_of_le (by have:=World.block_lt_of_cell? _ _ hw369_3;first|rwa [add_block] at this|exact this) GW360.out))|(dsimp only;exact Nat.ne_of_lt (Nat.lt_of_lt_of_le (by have:=World.block_lt_of_cell? _ _ hw369_3;first|rwa [add_block] at this|exact this) GW360.out))) _).trans (hHeld.2.2.2))))))))))))⟩ (fun hHeld=>?_)
     clear hK K
     refine done_ (done_of HT_.out (by kernel_rfl)) ?_
     try go_wp2
     refine bodyPost_ret (results_cell_row rfl _ _ gb360 29 #[.slice Ao16 t366.length co16,.int .i64 ((rd_T25 l0 0).f0),.int .i64 ((rd_T25 l0 0).f1),.int .i64 ((rd_T25 l0 0).f2),.string ((rd_T25 l0 0).f3),.int .i64 0] (0,0) _ rfl (by (with_reducible repeat (first|refine blk_drewN ?_ _|refine blk_drew ?_|refine blk_alloc ?_ _));refine blk_put (cs:=#[.slice Ao16 t366.length co16,.int .i64 ((rd_T25 l0 0).f0),.int .i64 ((rd_T25 l0 0).f1),.int .i64 ((rd_T25 l0 0).f2),.string ((rd_T25 l0 0).f3),.int .i64 0]) ?_ 5 _ rfl;(with_reducible repeat (first|refine blk_drewN ?_ _|refine blk_drew ?_|refine blk_alloc ?_ _));refine blk_put (cs:=#[.slice Ao16 t366.length co16,.int .i64 ((rd_T25 l0 0).f0),.int .i64 ((rd_T25 l0 0).f1),.int .i64 ((rd_T25 l0 0).f2),.string (⟨#[]⟩:ByteArray),.int .i64 0]) ?_ 4 _ rfl;(with_reducible repeat (first|refine blk_drewN ?_ _|refine blk_drew ?_|refine blk_alloc ?_ _));refine blk_put (cs:=#[.slice Ao16 t366.length co16,.int .i64 ((rd_T25 l0 0).f0),.int .i64 ((rd_T25 l0 0).f1),.int .i64 0,.string (⟨#[]⟩:ByteArray),.int .i64 0]) ?_ 3 _ rfl;(with_reducible repeat (first|refine blk_drewN ?_ _|refine blk_drew ?_|refine blk_alloc ?_ _));refine blk_put (cs:=#[.slice Ao16 t366.length co16,.int .i64 ((rd_T25 l0 0).f0),.int .i64 0,.int .i64 0,.string (⟨#[]⟩:ByteArray),.int .i64 0]) ?_ 2 _ rfl;(with_reducible repeat (first|refine blk_drewN ?_ _|refine blk_drew ?_|refine blk_alloc ?_ _));refine blk_put (cs:=#[.slice Ao16 t366.length co16,.int .i64 0,.int .i64 0,.int .i64 0,.string (⟨#[]⟩:ByteArray),.int .i64 0]) ?_ 1 _ rfl;(with_reducible repeat (first|refine blk_drewN ?_ _|refine blk_drew ?_|refine blk_alloc ?_ _));refine blk_put (cs:=#[.slice none 0 0,.int .i64 0,.int .i64 0,.int .i64 0,.string (⟨#[]⟩:ByteArray),.int .i64 0]) ?_ 0 _ rfl;(with_reducible repeat (first|refine blk_drewN ?_ _|refine blk_drew ?_|refine blk_alloc ?_ _));exact BK360.out) Try.underlying29 rfl (by kernel_rfl)) rfl ?_
     exact ⟨_,by first|rfl|(simp [errW_none,errW_some] <;> rfl)|(simp [*,errW_none,errW_some] <;> rfl),by (with_reducible repeat (first|apply Kd.R_alloc|apply Kd.R_drewN|apply Kd.R_drew));exact Kd.R_mono (Kd.R_far (p:=⟨gb360,5,none⟩) (Kd.R_far (p:=⟨gb360,4,none⟩) (Kd.R_far (p:=⟨gb360,3,none⟩) (Kd.R_far (p:=⟨gb360,2,none⟩) (Kd.R_far (p:=⟨gb360,1,none⟩) (Kd.R_far (p:=⟨gb360,0,none⟩) (Kd.R_types HO368.out BK360.out (by decide)) (fun _ hk=>hk.2) (.slice Ao16 t366.length co16)) (fun _ hk=>hk.2) (.int .i64 ((rd_T25 l0 0).f0))) (fun _ hk=>hk.2) (.int .i64 ((rd_T25 l0 0).f1))) (fun _ hk=>hk.2) (.int .i64 ((rd_T25 l0 0).f2))) (fun _ hk=>hk.2) (.string ((rd_T25 l0 0).f3))) (fun _ hk=>hk.2) (.int .i64 0)) (fun _ hk=>trivial),by repeat (first|(with_reducible first|exact HB.out|apply below_alloc|apply pw_below_drewN|apply below_drew1|refine below_set ?_ GE360.out)|exact HB.out)⟩
    ·rw [if_neg c10] at H
     exact absurd H (by simp)
   ·rw [if_neg c8] at H
    exact absurd H (by simp)
 ·rw [if_neg c3] at H
  have c3b0:(t361 == 0) = false:=beq_eq_false_iff_ne.mpr c3
  have c3b1:(t361 != 0) = true:=bne_iff_ne.mpr c3
  simp only [Option.some.injEq,Prod.mk.injEq] at H
  obtain ⟨rfl,rfl,rfl,rfl,rfl,rfl⟩:=H
  go_enter Try.func10,Try.ntmps10
  go_wp2_with (first|((with_reducible refine gate_dst (N:=2) rfl ?_);refine box_event ?hg (N:=2) ?hd (cs:=#[.slice none 0 0,.int .i64 0,.int .i64 0,.int .i64 0,.string (⟨#[]⟩:ByteArray),.int .i64 0]) (t:=29) ?hr ?_;(case hd=>rfl);(case hg=>rfl);(case hr=>first|(go_simp;done)|(go_simp;rfl));intro gb360 hg w23 hbox hb;have n0_:=Aside0.mk (below_step (by repeat (first|(with_reducible first|exact HB.out|apply below_alloc|apply pw_below_drewN|apply below_drew1)|exact HB.out)) hb);have n1_:=Aside0.mk (hbox);have n2_:=Aside0.mk ((by rw [hg];exact (below_size (by repeat (first|(with_reducible first|exact HB.out|apply below_alloc|apply pw_below_drewN|apply below_drew1)|exact HB.out))):w.heap.size≤gb360));have n3_:=Aside0.mk ((by rw [hg];exact (below_size (by repeat (first|(with_reducible first|exact HB.out|apply below_alloc|apply pw_below_drewN|apply below_drew1)|exact HB.out))):w.heap.size≤gb360));clear HB;have HB:=n0_;have BK360:=n1_;have GW360:=n2_;have GE360:=n3_;clear n0_ n1_ n2_ n3_;clear hb hbox hg)|((with_reducible refine gate_callee (f:=64) rfl ?_);refine goesL_ (some 5) rfl rfl Try.func64 (by kernel_rfl) rfl #[.slice A0 l0.length c0] rfl (by (try simp only [List.map_toArray,List.map_cons,List.map_nil]);first|done|rfl|(simp only [List.length_drop,List.length_take];rfl)) ?_;(with_reducible refine (impl_queueCode.calls k _ _ l0 t361 _ ?side1 ?side2 A2.out).mono ?_);(case side1=>repeat (first|exact (Kd.C_below HR0.out HB.out)|(with_reducible refine Kd.C_alloc ?_ _)|(with_reducible refine Kd.C_drewN ?_ _)|(with_reducible refine Kd.C_drew ?_)));(case side2=>exact HC0.out);rintro e w24 ⟨rfl,hb⟩;refine ⟨_,rfl,?_⟩;have n0_:=Aside0.mk (blk_below (g:=gb360) (o:=.cells #[.slice none 0 0,.int .i64 0,.int .i64 0,.int .i64 0,.string (⟨#[]⟩:ByteArray),.int .i64 0] 29 (0,0)) (by (with_reducible repeat (first|refine blk_drewN ?_ _|refine blk_drew ?_|refine blk_alloc ?_ _));exact BK360.out) hb);have n1_:=Aside0.mk (below_step (by repeat (first|(with_reducible first|exact HB.out|apply below_alloc|apply pw_below_drewN|apply below_drew1|refine below_set ?_ GE360.out)|exact HB.out)) hb);clear BK360;clear HB;have BK360:=n0_;have HB:=n1_;clear n0_ n1_;(try clear hb);(try clear hb2);(try clear hk);(try clear hi);have hcz25_0:w24.cell? ⟨gb360,0,none⟩ = some (.slice none 0 0):=(blk_cell BK360.out 0).trans rfl;have hcz25_1:w24.cell? ⟨gb360,1,none⟩ = some (.int .i64 0):=(blk_cell BK360.out 1).trans rfl;have hcz25_2:w24.cell? ⟨gb360,2,none⟩ = some (.int .i64 0):=(blk_cell BK360.out 2).trans rfl;have hcz25_3:w24.cell? ⟨gb360,3,none⟩ = some (.int .i64 0):=(blk_cell BK360.out 3).trans rfl;have hcz25_4:w24.cell? ⟨gb360,4,none⟩ = some (.string (⟨#[]⟩:ByteArray)):=(blk_cell BK360.out 4).trans rfl;have hcz25_5:w24.cell? ⟨gb360,5,none⟩ = some (.int .i64 0):=(blk_cell BK360.out 5).trans rfl;have hfz25_0:=blk_frozen BK360.out 0;have hfz25_1:=blk_frozen BK360.out 1;have hfz25_2:=blk_frozen BK360.out 2;have hfz25_3:=blk_frozen BK360.out 3;have hfz25_4:=blk_frozen BK360.out 4;have hfz25_5:=blk_frozen BK360.out 5))
  refine bodyPost_ret (results_cell_row rfl _ _ gb360 29 #[.slice none 0 0,.int .i64 0,.int .i64 0,.int .i64 0,.string (⟨#[]⟩:ByteArray),.int .i64 t361] (0,0) _ rfl (by (with_reducible repeat (first|refine blk_drewN ?_ _|refine blk_drew ?_|refine blk_alloc ?_ _));refine blk_put (cs:=#[.slice none 0 0,.int .i64 0,.int .i64 0,.int .i64 0,.string (⟨#[]⟩:ByteArray),.int .i64 0]) ?_ 5 _ rfl;(with_reducible repeat (first|refine blk_drewN ?_ _|refine blk_drew ?_|refine blk_alloc ?_ _));refine blk_put (cs:=#[.slice none 0 0,.int .i64 0,.int .i64 0,.int .i64 0,.string (⟨#[]⟩:ByteArray),.int .i64 0]) ?_ 4 _ rfl;(with_reducible repeat (first|refine blk_drewN ?_ _|refine blk_drew ?_|refine blk_alloc ?_ _));refine blk_put (cs:=#[.slice none 0 0,.int .i64 0,.int .i64 0,.int .i64 0,.string (⟨#[]⟩:ByteArray),.int .i64 0]) ?_ 3 _ rfl;(with_reducible repeat (first|refine blk_drewN ?_ _|refine blk_drew ?_|refine blk_alloc ?_ _));refine blk_put (cs:=#[.slice none 0 0,.int .i64 0,.int .i64 0,.int .i64 0,.string (⟨#[]⟩:ByteArray),.int .i64 0]) ?_ 2 _ rfl;(with_reducible repeat (first|refine blk_drewN ?_ _|refine blk_drew ?_|refine blk_alloc ?_ _));refine blk_put (cs:=#[.slice none 0 0,.int .i64 0,.int .i64 0,.int .i64 0,.string (⟨#[]⟩:ByteArray),.int .i64 0]) ?_ 1 _ rfl;(with_reducible repeat (first|refine blk_drewN ?_ _|refine blk_drew ?_|refine blk_alloc ?_ _));refine blk_put (cs:=#[.slice none 0 0,.int .i64 0,.int .i64 0,.int .i64 0,.string (⟨#[]⟩:ByteArray),.int .i64 0]) ?_ 0 _ rfl;(with_reducible repeat (first|refine blk_drewN ?_ _|refine blk_drew ?_|refine blk_alloc ?_ _));exact BK360.out) Try.underlying29 rfl (by kernel_rfl)) rfl ?_
  exact ⟨_,by first|rfl|(simp [errW_none,errW_some] <;> rfl)|(simp [*,errW_none,errW_some] <;> rfl),by first|exact Kd.R_nil _ _ _ _ _|exact Kd.N_nil _ _ _ _ _|exact Kd.V_nil _ _ _ _ _|exact Kd.Q_nil _ _ _ _ _|exact Kd.S_nil _ _ _ _ _,by repeat (first|(with_reducible first|exact HB.out|apply below_alloc|apply pw_below_drewN|apply below_drew1|refine below_set ?_ GE360.out)|exact HB.out)⟩
end Go.Proofs.Ytaiiikfeaokmhaa.PFnQueue
