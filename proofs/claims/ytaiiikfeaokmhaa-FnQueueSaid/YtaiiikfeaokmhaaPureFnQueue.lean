/- The plain law of FnQueue: what the Lean functions of the printed texts answer. -/
import Derived.Test.YtaiiikfeaokmhaaGFnQueue
import Derived.Test.YtaiiikfeaokmhaaXFnQueue
namespace Go.Proofs.Ytaiiikfeaokmhaa.Pure
open Go.RowKit Go.Proofs.Ytaiiikfeaokmhaa.PFnQueue Go.Proofs.YtaiiikfeaokmhaaW.PrintWords Go.Proofs.YtaiiikfeaokmhaaW.PrintLast Go.Proofs.YtaiiikfeaokmhaaW.PrintMore Go.Proofs.YtaiiikfeaokmhaaH
set_option linter.unusedVariables false
set_option linter.unusedSimpArgs false

theorem spec_l02Is_eq (a b c:Int):spec_l02Is.f a b c = some (inR a b c):=by
 by_cases h:b≤a <;> simp [spec_l02Is.f,inR,h]

theorem rdD_nat (l:List S25) (i:Nat):rd_T25 l (i:Int) = l.getD i z25:=by simp [rd_T25]
/-- May it be due? -/
def dueR (a s n:Int) (t:ByteArray):Bool:=inR a 0 1000000 && (inR s 0 1000000 && (inR n 0 99 && decide ((t.size:Int)≤400)))
def dueLess (x y:S25):Bool:=decide (x.f0 < y.f0) || (decide (x.f0 = y.f0) && decide (x.f1 < y.f1))
def dueT (l:List S25) (i:Nat):Bool:=dueR (l.getD i z25).f0 (l.getD i z25).f1 (l.getD i z25).f2 (l.getD i z25).f3 && (decide (i = 0) || dueLess (l.getD (i - 1) z25) (l.getD i z25))
theorem dueT_iff {l:List S25} {i:Nat}:dueT l i = true ↔ dueR (l.getD i z25).f0 (l.getD i z25).f1 (l.getD i z25).f2 (l.getD i z25).f3 = true∧(i = 0∨dueLess (l.getD (i - 1) z25) (l.getD i z25) = true):=by
 simp only [dueT,Bool.and_eq_true,Bool.or_eq_true,decide_eq_true_eq]
/-- Is a queue right? -/
def queueR (l:List S25):Bool:=decide (l.length≤200) && allB (dueT l) 0 l.length

theorem spec_l03Time_eq' (a:Int):spec_l03Time.f a = some (inR a 0 1000000):=by simp [spec_l03Time.f,spec_l02Is_eq]
theorem spec_l03Due_eq (a b c:Int) (t:ByteArray):spec_l03Due.f a b c t = some (dueR a b c t):=by
 simp only [spec_l03Due.f,spec_l03Time_eq',spec_l02Is_eq,Option.bind_some,dueR]
 cases inR a 0 1000000 <;> cases inR b 0 1000000 <;> cases inR c 0 99 <;> simp
theorem spec_l03Less_eq (x y:S25):spec_l03Less.f x.f0 x.f1 x.f2 x.f3 y.f0 y.f1 y.f2 y.f3 = some (dueLess x y):=by
 unfold spec_l03Less.f dueLess
 repeat' split
 all_goals simp [*]
theorem specQueue_ev (l:List S25):Ev (fun k=>spec_QueueRight.f k l) (queueR l):=by
 unfold queueR
 by_cases h6:l.length≤200
 ·have hh:=allLoop l.length (dueT l) true (fun k i=>spec_QueueRight.l0 k l i) (fun k i hi=>by
    simp only [spec_QueueRight.l0,spec_l03Due_eq,Option.bind_some]
    rw [if_pos (by omega),if_pos (by omega),wrap_succ hi (by omega),rdD_nat]
    by_cases hf:dueR (l.getD i z25).f0 (l.getD i z25).f1 (l.getD i z25).f2 (l.getD i z25).f3 = true
    ·rw [if_pos hf]
     by_cases h0:i = 0
     ·rw [if_neg (by omega),if_pos (dueT_iff.2 ⟨hf,.inl h0⟩)]
     ·rw [if_pos (by omega),wrap_pred (by omega) hi (by omega),if_pos (by omega),if_pos (by omega),rdD_nat]
      simp only [spec_l03Less_eq,Option.bind_some]
      by_cases hlt:dueLess (l.getD (i - 1) z25) (l.getD i z25) = true
      ·rw [if_pos hlt,if_pos (dueT_iff.2 ⟨hf,.inr hlt⟩)]
      ·rw [if_neg hlt,if_neg (fun h=>(dueT_iff.1 h).2.elim h0 hlt)]
    ·rw [if_neg hf,if_neg (fun h=>hf (dueT_iff.1 h).1)]) (fun k=>by
    simp only [spec_QueueRight.l0]
    rw [if_neg (by omega)]) l.length 0 (by omega)
  rw [decide_eq_true h6,Bool.true_and]
  rw [Bool.and_true] at hh
  refine Ev.congr (fun k=>?_) hh
  simp only [spec_QueueRight.f];rw [if_neg (by omega)];rfl
 ·rw [decide_eq_false h6,Bool.false_and]
  refine Ev.congr (f:=fun _=>some false) (fun k=>?_) (Ev.now _)
  simp only [spec_QueueRight.f];rw [if_pos (by omega)]

theorem impl_within_eq (a b c:Int):impl_within.f a b c = some (inR a b c):=by
 by_cases h:b≤a <;> simp [impl_within.f,inR,h]

/-- Which of two comes first. -/
def ord2 (a b a' b':Int):Int:=if a < a' then -1 else if a > a' then 1 else if b < b' then -1 else if b > b' then 1 else 0
def ord1 (a b:Int):Int:=if a < b then -1 else if a > b then 1 else 0
theorem compare_eq (a b:Int):cmp_Compare_int64.f a b = some (ord1 a b):=by
 simp only [cmp_Compare_int64.f,cmp_isNaN_int64.f,Option.bind_some,bne_self_eq_false,Bool.false_eq_true,if_false,ord1]
 split <;> simp
 split <;> rfl
theorem or_ev (x y:Int):Ev (fun k=>cmp_Or_int.f k [x,y]) (if x = 0 then y else x):=by
 have h1:wrap64 (((0:Nat):Int) + 1) = ((1:Nat):Int):=by decide +kernel
 have h2:wrap64 (((1:Nat):Int) + 1) = ((2:Nat):Int):=by decide +kernel
 refine Ev.congr (f:=fun k=>cmp_Or_int.l0 k 0 [x,y] 2 ((0:Nat):Int)) (fun k=>rfl) ?_
 by_cases hx:x = 0
 ·rw [if_pos hx]
  refine Ev.step (f:=fun k=>cmp_Or_int.l0 k 0 [x,y] 2 ((1:Nat):Int)) (fun k=>?_) ?_
  ·simp only [cmp_Or_int.l0]
   rw [if_pos (by omega),if_pos (by omega),if_pos (by simp),rd_nat,if_pos (show [x,y].getD 0 0 = 0 from hx),h1]
  ·by_cases hy:y = 0
   ·rw [hy]
    refine Ev.step (f:=fun k=>cmp_Or_int.l0 k 0 [x,0] 2 ((2:Nat):Int)) (fun k=>?_) (Ev.step (f:=fun _=>some 0) (fun k=>?_) (Ev.now _))
    ·simp only [cmp_Or_int.l0]
     rw [if_pos (by omega),if_pos (by omega),if_pos (by simp),rd_nat,if_pos (show [x,0].getD 1 0 = (0:Int) from rfl),h2]
    ·simp only [cmp_Or_int.l0]
     rw [if_neg (by omega)]
   ·refine Ev.step (f:=fun _=>some y) (fun k=>?_) (Ev.now _)
    simp only [cmp_Or_int.l0]
    rw [if_pos (by omega),if_pos (by omega),if_pos (by simp),rd_nat,if_neg (show ¬ [x,y].getD 1 0 = 0 from hy)]
    rfl
 ·rw [if_neg hx]
  refine Ev.step (f:=fun _=>some x) (fun k=>?_) (Ev.now _)
  simp only [cmp_Or_int.l0]
  rw [if_pos (by omega),if_pos (by omega),if_pos (by simp),rd_nat,if_neg (show ¬ [x,y].getD 0 0 = 0 from hx)]
  rfl
theorem dueOrder_ev (a b c:Int) (t:ByteArray) (a' b' c':Int) (t':ByteArray):Ev (fun k=>impl_dueOrder.f k a b c t a' b' c' t') (ord2 a b a' b'):=by
 simp only [impl_dueOrder.f,compare_eq,Option.bind_some]
 refine Ev.bind (or_ev _ _) ?_
 have:(if ord1 a a' = 0 then ord1 b b' else ord1 a a') = ord2 a b a' b':=by
  unfold ord1 ord2
  repeat' split
  all_goals first|rfl|omega
 rw [this]
 exact Ev.now _

theorem impl_isTime_eq' (a:Int):impl_isTime.f a = some (inR a 0 1000000):=by simp [impl_isTime.f,impl_within_eq]
theorem impl_isDue_eq (a b c:Int) (t:ByteArray):impl_isDue.f a b c t = some (dueR a b c t):=by
 simp only [impl_isDue.f,impl_isTime_eq',impl_within_eq,Option.bind_some,dueR]
 cases inR a 0 1000000 <;> cases inR b 0 1000000 <;> cases inR c 0 99 <;> simp
theorem ord2_iff (x y:S25):¬ ord2 x.f0 x.f1 y.f0 y.f1 ≥ 0 ↔ dueLess x y = true:=by
 simp only [dueLess,Bool.or_eq_true,Bool.and_eq_true,decide_eq_true_eq]
 unfold ord2
 repeat' split
 all_goals omega
theorem implQueue_ev (l:List S25):Ev (fun k=>impl_QueueRight.f k l) (queueR l):=by
 unfold queueR
 by_cases h6:l.length≤200
 ·have hh:=allLoopE l.length (dueT l) true (fun k i=>impl_QueueRight.l0 k l l (l.length:Int) i) (fun i hi R hR=>by
    by_cases hf:dueR (l.getD i z25).f0 (l.getD i z25).f1 (l.getD i z25).f2 (l.getD i z25).f3 = true
    ·by_cases h0:i = 0
     ·rw [dueT_iff.2 ⟨hf,.inl h0⟩,Bool.true_and]
      refine Ev.step (fun k=>?_) hR
      simp only [impl_QueueRight.l0,impl_isDue_eq,Option.bind_some]
      rw [if_pos (by omega),if_pos (by omega),if_pos (by omega),wrap_succ hi (by omega),rdD_nat,if_pos hf,if_neg (by omega)]
     ·have ho:=dueOrder_ev (l.getD (i - 1) z25).f0 (l.getD (i - 1) z25).f1 (l.getD (i - 1) z25).f2 (l.getD (i - 1) z25).f3 (l.getD i z25).f0 (l.getD i z25).f1 (l.getD i z25).f2 (l.getD i z25).f3
      refine Ev.step (fun k=>?_) (Ev.bind ho (f:=fun k t=>if t ≥ 0 then some false else impl_QueueRight.l0 k l l (l.length:Int) ((i + 1:Nat):Int)) ?_)
      ·simp only [impl_QueueRight.l0,impl_isDue_eq,Option.bind_some]
       rw [if_pos (by omega),if_pos (by omega),if_pos (by omega),wrap_succ hi (by omega),rdD_nat,if_pos hf,if_pos (by omega),wrap_pred (by omega) hi (by omega),if_pos (by omega),if_pos (by omega),rdD_nat]
      ·by_cases hlt:dueLess (l.getD (i - 1) z25) (l.getD i z25) = true
       ·rw [dueT_iff.2 ⟨hf,.inr hlt⟩,Bool.true_and]
        simp only [if_neg ((ord2_iff _ _).2 hlt)]
        exact hR
       ·have:dueT l i = false:=by
         rw [← Bool.not_eq_true]
         exact fun h=>(dueT_iff.1 h).2.elim h0 hlt
        rw [this,Bool.false_and]
        simp only [if_pos (Decidable.of_not_not (fun h=>hlt ((ord2_iff _ _).1 h)))]
        exact Ev.now _
    ·have:dueT l i = false:=by
      rw [← Bool.not_eq_true]
      exact fun h=>hf (dueT_iff.1 h).1
     rw [this,Bool.false_and]
     refine Ev.step (f:=fun _=>some false) (fun k=>?_) (Ev.now _)
     simp only [impl_QueueRight.l0,impl_isDue_eq,Option.bind_some]
     rw [if_pos (by omega),if_pos (by omega),if_pos (by omega),rdD_nat,if_neg hf]) (Ev.step (f:=fun _=>some true) (fun k=>by
    simp only [impl_QueueRight.l0]
    rw [if_neg (by omega)]) (Ev.now _)) l.length 0 (by omega)
  rw [decide_eq_true h6,Bool.true_and]
  rw [Bool.and_true] at hh
  refine Ev.congr (fun k=>?_) hh
  simp only [impl_QueueRight.f];rw [if_neg (by omega)];rfl
 ·rw [decide_eq_false h6,Bool.false_and]
  refine Ev.congr (f:=fun _=>some false) (fun k=>?_) (Ev.now _)
  simp only [impl_QueueRight.f];rw [if_pos (by omega)]

theorem queueCode_ev (l:List S25):Ev (fun k=>impl_queueCode.f k l) (if 400 < l.length then 2 else if queueR l = true then 0 else 1):=by
 by_cases h4:400 < l.length
 ·rw [if_pos h4]
  refine Ev.congr (f:=fun _=>some _) (fun k=>?_) (Ev.now _)
  simp only [impl_queueCode.f,impl_Due_121.f,Option.bind_some];rw [if_pos (by simp;omega)]
 ·rw [if_neg h4]
  refine Ev.congr (fun k=>?_) (Ev.bind (implQueue_ev l) (f:=fun k t=>if t = true then some 0 else some 1) ?_)
  ·simp only [impl_queueCode.f,impl_Due_121.f,Option.bind_some];rw [if_neg (by simp;omega)]
  ·by_cases hq:queueR l = true
   ·simp only [if_pos hq];exact Ev.now _
   ·simp only [if_neg hq];exact Ev.now _

/-- What is answered at place m. -/
def qFin (l:List S25) (d:S25) (m:Nat):List S25×Int×Int×Int×ByteArray×Int :=
 if m < l.length∧dueLess d (l.getD m z25) = false then ([],0,0,0,⟨#[]⟩,7) else if 200≤l.length then ([],0,0,0,⟨#[]⟩,9) else (l.take m ++ [d] ++ l.drop m,0,0,0,⟨#[]⟩,0)
/-- The place. -/
def qm (l:List S25) (d:S25):Nat:=(l.takeWhile (fun x=>dueLess x d)).length
theorem qm_at (l:List S25) (d:S25) (m:Nat) (h:m≤l.length) (h1:∀ j,j < m→dueLess (l.getD j z25) d = true) (h2:m < l.length→dueLess (l.getD m z25) d = false):qm l d = m:=by
 have:=(takeWhile_at (fun x=>dueLess x d) z25 l m h h1 h2).1
 rw [qm,this,List.length_take]
 omega
/-- What is put. -/
def queuePutS (l:List S25) (d:S25):List S25×Int×Int×Int×ByteArray×Int :=
 if 400 < l.length then ([],0,0,0,⟨#[]⟩,2) else if (queueR l && dueR d.f0 d.f1 d.f2 d.f3) = true then qFin l d (qm l d) else ([],0,0,0,⟨#[]⟩,1)
theorem queuePutS_length (l:List S25) (d:S25):(queuePutS l d).1.length≤401:=by
 unfold queuePutS qFin
 repeat' split
 all_goals first|(simp;done)|(simp only [List.length_append,List.length_take,List.length_drop,List.length_singleton];omega)
theorem putJ2 (l:List S25) (hl:l.length≤1048576) (d:S25) (k i:Nat) (hi:i≤l.length) (b:Bool):spec_l03Put.j2 (k + 1) l (i:Int) b d.f0 d.f1 d.f2 d.f3 = some (if b = true then ([],0,0,0,⟨#[]⟩,7) else if 200≤l.length then ([],0,0,0,⟨#[]⟩,9) else (l.take i ++ [d] ++ l.drop i,0,0,0,⟨#[]⟩,0)):=by
 have e1:(l.take i).length≤1048576:=by rw [List.length_take];omega
 have e2:(l.drop i).length≤1048576:=by rw [List.length_drop];omega
 have L (y:List S25):(([]:List S25) ++ y) = y:=List.nil_append y
 have L0:([]:List S25).length = 0:=rfl
 have e4:(l.take i ++ [(⟨d.f0,d.f1,d.f2,d.f3⟩:S25)]).length = (l.take i).length + 1:=by rw [List.length_append];rfl
 simp only [spec_l03Put.j2]
 cases b with
 | true=>rfl
 | false =>
  simp only [Bool.false_eq_true,if_false]
  by_cases h2:200≤l.length
  ·rw [if_pos (show (l.length:Int) ≥ 200 by omega),if_pos h2];rfl
  ·rw [if_neg (show ¬ (l.length:Int) ≥ 200 by omega),if_neg h2,Option.bind_some,if_pos (by omega),if_pos (by omega),Int.toNat_natCast,Option.bind_some,L,if_pos (by omega),Option.bind_some,if_pos (by omega),Option.bind_some,Option.bind_some,if_pos (by omega)]
theorem putJ1 (l:List S25) (hl:l.length≤1048576) (d:S25) (k i:Nat) (hi:i≤l.length):spec_l03Put.j1 ((k + 1) + 1) l (i:Int) d.f0 d.f1 d.f2 d.f3 = some (qFin l d i):=by
 simp only [spec_l03Put.j1]
 by_cases h:i < l.length
 ·rw [if_pos (by omega),if_pos (by omega),rdD_nat,spec_l03Less_eq d (l.getD i z25),Option.bind_some,putJ2 l hl d k i hi,qFin]
  cases hq:dueLess d (l.getD i z25) with
  | true=>rw [if_neg (by decide),if_neg (show ¬ (i < l.length∧true = false) from fun z=>absurd z.2 (by decide))]
  | false=>rw [if_pos (by decide),if_pos (show i < l.length∧false = false from ⟨h,rfl⟩)]
 ·rw [if_neg (by omega),putJ2 l hl d k i hi,qFin,if_neg (by decide),if_neg (show ¬ (i < l.length∧_) from fun z=>h z.1)]
theorem specPutQ_ev (l:List S25) (d:S25) (hl:l.length≤1048576):Ev (fun k=>spec_l03Put.f k l d.f0 d.f1 d.f2 d.f3) (qFin l d (qm l d)):=by
 obtain ⟨m,_,a2,a3,a4,a5⟩:=seekLoop l.length (fun i=>dueLess (l.getD i z25) d) (fun k i=>spec_l03Put.l0 (k + 2) l i d.f0 d.f1 d.f2 d.f3) (qFin l d) (fun k i hi hb=>by
   have hw:=wrap_succ (i:=i) (n:=l.length) hi (by omega)
   show spec_l03Put.l0 ((k + 2) + 1) l (i:Int) d.f0 d.f1 d.f2 d.f3 = spec_l03Put.l0 (k + 2) l ((i + 1:Nat):Int) d.f0 d.f1 d.f2 d.f3
   conv=>lhs;simp only [spec_l03Put.l0]
   rw [if_pos (by omega),if_pos (by omega),rdD_nat,spec_l03Less_eq (l.getD i z25) d,Option.bind_some,if_pos hb,hw]
   rfl) (fun k i hi hb=>by
   show spec_l03Put.l0 ((k + 2) + 1) l (i:Int) d.f0 d.f1 d.f2 d.f3 = some (qFin l d i)
   rw [← putJ1 l hl d k i hi]
   rw [spec_l03Put.l0]
   by_cases h:i < l.length
   ·rw [if_pos (by omega),if_pos (by omega),rdD_nat,spec_l03Less_eq (l.getD i z25) d,Option.bind_some,if_neg (by rw [hb h];decide)]
   ·rw [if_neg (by omega)]) l.length 0 (by omega)
 rw [qm_at l d m a2 (fun j hj=>a4 j (by omega) hj) a5]
 exact Ev.step (g:=fun k=>spec_l03Put.f k l d.f0 d.f1 d.f2 d.f3) (f:=fun k=>spec_l03Put.l0 (k + 1) l ((0:Nat):Int) d.f0 d.f1 d.f2 d.f3) (fun k=>rfl) (Ev.step (g:=fun k=>spec_l03Put.l0 (k + 1) l ((0:Nat):Int) d.f0 d.f1 d.f2 d.f3) (f:=fun k=>spec_l03Put.l0 (k + 2) l ((0:Nat):Int) d.f0 d.f1 d.f2 d.f3) (fun k=>rfl) a3)
theorem specQueuePut_ev (l:List S25) (d:S25) (hl:l.length≤1048576):Ev (fun k=>spec_QueuePut.f k l d.f0 d.f1 d.f2 d.f3) (queuePutS l d):=by
 unfold queuePutS
 by_cases h4:400 < l.length
 ·rw [if_pos h4]
  refine Ev.congr (f:=fun _=>some _) (fun k=>?_) (Ev.now _)
  simp only [spec_QueuePut.f];rw [if_pos (by omega)];first|done|rfl
 ·rw [if_neg h4]
  refine Ev.congr (fun k=>by simp only [spec_QueuePut.f];rw [if_neg (by omega)]) (Ev.bind (specQueue_ev l) ?_)
  cases hq:queueR l with
  | false =>
   simp only [Bool.false_and,Bool.false_eq_true,if_false]
   refine Ev.step (f:=fun _=>some _) (fun k=>?_) (Ev.now _)
   simp only [spec_QueuePut.j0,if_true,spec_l03Ill.f,Option.bind_some]
  | true =>
   simp only [Bool.true_and,if_true,spec_l03Due_eq,Option.bind_some]
   cases hf:dueR d.f0 d.f1 d.f2 d.f3 with
   | false =>
    simp only [Bool.false_eq_true,if_false]
    refine Ev.step (f:=fun _=>some _) (fun k=>?_) (Ev.now _)
    simp only [spec_QueuePut.j0,Bool.not_false,if_true,spec_l03Ill.f,Option.bind_some]
   | true =>
    simp only [if_true]
    refine Ev.step (fun k=>by simp only [spec_QueuePut.j0,Bool.not_true,Bool.false_eq_true,if_false];first|done|rfl) (Ev.bind (specPutQ_ev l d hl) (Ev.now _))
theorem dueLess_iff (x y:S25):dueLess x y = true ↔ (x.f0 < y.f0∨(x.f0 = y.f0∧x.f1 < y.f1)):=by
 simp only [dueLess,Bool.or_eq_true,Bool.and_eq_true,decide_eq_true_eq]
theorem dueLess_trans {x y w:S25} (h1:dueLess x y = true) (h2:dueLess y w = true):dueLess x w = true:=by
 rw [dueLess_iff] at *
 omega
theorem queueR_lt {l:List S25} (h:queueR l = true):∀ b a:Nat,a < b→b < l.length→dueLess (l.getD a z25) (l.getD b z25) = true:=by
 rw [queueR,Bool.and_eq_true,allB_iff] at h
 have h:=h.2
 intro b
 induction b with
 | zero=>intro a h1;omega
 | succ b ih =>
  intro a h1 h2
  have h3:=(dueT_iff.1 (h (b + 1) (by omega) (by omega))).2
  rw [Nat.add_sub_cancel] at h3
  rcases h3 with h3|h3
  ·omega
  ·rcases Nat.lt_or_ge a b with h4|h4
   ·exact dueLess_trans (ih a h4 (by omega)) h3
   ·have:a = b:=by omega
    subst this;exact h3
theorem ord2_zero (x d:S25) (h:dueLess x d = false):decide (ord2 x.f0 x.f1 d.f0 d.f1 = 0) = !dueLess d x:=by
 have h1:=ord2_iff x d
 have h2:=ord2_iff d x
 have h3:ord2 d.f0 d.f1 x.f0 x.f1 = - ord2 x.f0 x.f1 d.f0 d.f1:=by
  unfold ord2
  repeat' split
  all_goals omega
 rw [h] at h1
 have h4:ord2 x.f0 x.f1 d.f0 d.f1 ≥ 0:=Decidable.of_not_not (fun z=>absurd (h1.1 z) (by decide))
 cases hd:dueLess d x with
 | true =>
  rw [hd] at h2
  have:=h2.2 rfl
  exact decide_eq_false (by omega)
 | false =>
  rw [hd] at h2
  have h5:ord2 d.f0 d.f1 x.f0 x.f1 ≥ 0:=Decidable.of_not_not (fun z=>absurd (h2.1 z) (by decide))
  exact decide_eq_true (by omega)
theorem putBs_ev (l:List S25) (d:S25):∀ (f i j:Nat),j - i < f→i≤j→j≤l.length→∃ m,i≤m∧m≤j∧Ev (fun k=>impl_QueuePut.bs k l d f i j) m∧(i < m→dueLess (l.getD (m - 1) z25) d = true)∧(m < j→dueLess (l.getD m z25) d = false):=by
 intro f
 induction f with
 | zero=>intro i j h;omega
 | succ f ih =>
  intro i j h1 h2 h3
  by_cases hij:i < j
  ·have ho:=dueOrder_ev (l.getD ((i + j) / 2) z25).f0 (l.getD ((i + j) / 2) z25).f1 (l.getD ((i + j) / 2) z25).f2 (l.getD ((i + j) / 2) z25).f3 d.f0 d.f1 d.f2 d.f3
   have hi2:=ord2_iff (l.getD ((i + j) / 2) z25) d
   cases hc:dueLess (l.getD ((i + j) / 2) z25) d with
   | true =>
    obtain ⟨m,a1,a2,a3,a4,a5⟩:=ih ((i + j) / 2 + 1) j (by omega) (by omega) h3
    have hneg:=hi2.2 hc
    refine ⟨m,by omega,a2,Ev.congr (fun k=>by rw [impl_QueuePut.bs,if_pos hij]) (Ev.bind ho ?_),fun h=>?_,a5⟩
    ·simp only [if_pos (show ord2 (l.getD ((i + j) / 2) z25).f0 (l.getD ((i + j) / 2) z25).f1 d.f0 d.f1 < 0 by omega)]
     exact a3
    ·by_cases e:(i + j) / 2 + 1 < m
     ·exact a4 e
     ·rw [show m - 1 = (i + j) / 2 by omega];exact hc
   | false =>
    obtain ⟨m,a1,a2,a3,a4,a5⟩:=ih i ((i + j) / 2) (by omega) (by omega) (by omega)
    have hneg:ord2 (l.getD ((i + j) / 2) z25).f0 (l.getD ((i + j) / 2) z25).f1 d.f0 d.f1 ≥ 0:=Decidable.of_not_not (fun z=>absurd (hi2.1 z) (by rw [hc];decide))
    refine ⟨m,a1,by omega,Ev.congr (fun k=>by rw [impl_QueuePut.bs,if_pos hij]) (Ev.bind ho ?_),a4,fun h=>?_⟩
    ·simp only [if_neg (show ¬ ord2 (l.getD ((i + j) / 2) z25).f0 (l.getD ((i + j) / 2) z25).f1 d.f0 d.f1 < 0 by omega)]
     exact a3
    ·by_cases e:m < (i + j) / 2
     ·exact a5 e
     ·rw [show m = (i + j) / 2 by omega];exact hc
  ·obtain rfl:i = j:=by omega
   exact ⟨i,Nat.le_refl _,Nat.le_refl _,Ev.congr (fun k=>by rw [impl_QueuePut.bs,if_neg hij]) (Ev.now _),fun h=>absurd h (Nat.lt_irrefl _),fun h=>absurd h (Nat.lt_irrefl _)⟩
theorem putIs_ev (l:List S25) (d:S25) (m:Nat) (h2:m < l.length→dueLess (l.getD m z25) d = false):Ev (fun k=>impl_QueuePut.is_ k l d m) (decide (m < l.length∧dueLess d (l.getD m z25) = false)):=by
 by_cases h:m < l.length
 ·refine Ev.congr (fun k=>by rw [impl_QueuePut.is_,if_pos h]) (Ev.bind (dueOrder_ev _ _ _ _ _ _ _ _) ?_)
  rw [ord2_zero _ _ (h2 h)]
  have:(!dueLess d (l.getD m z25)) = decide (m < l.length∧dueLess d (l.getD m z25) = false):=by
   cases hd:dueLess d (l.getD m z25) with
   | true=>exact (decide_eq_false (fun z=>absurd z.2 (by decide))).symm
   | false=>exact (decide_eq_true ⟨h,rfl⟩).symm
  rw [this]
  exact Ev.now _
 ·rw [decide_eq_false (fun z=>h z.1)]
  exact Ev.congr (fun k=>by rw [impl_QueuePut.is_,if_neg h]) (Ev.now _)
theorem implQueuePut_ev (l:List S25) (d:S25) (hl:l.length≤1048576):Ev (fun k=>impl_QueuePut.f k l d.f0 d.f1 d.f2 d.f3) (queuePutS l d):=by
 unfold queuePutS
 refine Ev.congr (fun k=>by rw [impl_QueuePut.f,if_pos hl]) (Ev.bind (queueCode_ev l) ?_)
 by_cases h4:400 < l.length
 ·rw [if_pos h4,if_pos h4]
  exact Ev.congr (fun k=>by rw [if_neg (by decide)]) (Ev.now _)
 ·rw [if_neg h4,if_neg h4]
  cases hq:queueR l with
  | false =>
   rw [Bool.false_and,if_neg (by decide),if_neg (by decide)]
   exact Ev.congr (fun k=>by rw [if_neg (by decide)]) (Ev.now _)
  | true =>
   rw [Bool.true_and,if_pos rfl]
   obtain ⟨m,_,a2,a3,a4,a5⟩:=putBs_ev l d (l.length + 1) 0 l.length (by omega) (by omega) (by omega)
   have hA:∀ j,j < m→dueLess (l.getD j z25) d = true:=fun j hj=>by
    have h1:=a4 (by omega)
    rcases Nat.lt_or_ge j (m - 1) with h2|h2
    ·exact dueLess_trans (queueR_lt hq (m - 1) j h2 (by omega)) h1
    ·rw [show j = m - 1 by omega];exact h1
   rw [qm_at l d m a2 hA a5]
   have h20:l.length≤200:=by
    rw [queueR,Bool.and_eq_true] at hq
    exact of_decide_eq_true hq.1
   refine Ev.congr (fun k=>by rw [if_pos rfl]) (Ev.bind a3 (Ev.bind (putIs_ev l d m a5) ?_))
   simp only [impl_isDue_eq,Option.bind_some]
   cases hf:dueR d.f0 d.f1 d.f2 d.f3 with
   | false =>
    rw [if_neg (by decide)]
    exact Ev.congr (fun k=>by rw [if_neg (by decide)]) (Ev.now _)
   | true =>
    rw [if_pos rfl,qFin]
    by_cases hx:m < l.length∧dueLess d (l.getD m z25) = false
    ·rw [if_pos hx]
     exact Ev.congr (fun k=>by rw [if_pos rfl,if_pos (decide_eq_true hx)]) (Ev.now _)
    ·rw [if_neg hx]
     by_cases h2:l.length = 200
     ·rw [if_pos (show 200≤l.length by omega)]
      exact Ev.congr (fun k=>by rw [if_pos rfl,if_neg (by rw [decide_eq_false hx];decide),if_pos h2]) (Ev.now _)
     ·rw [if_neg (show ¬ 200≤l.length by omega)]
      exact Ev.congr (fun k=>by rw [if_pos rfl,if_neg (by rw [decide_eq_false hx];decide),if_neg h2,if_pos a2]) (Ev.now _)

/-- What is taken. -/
def takeQ (l:List S25):List S25×Int×Int×Int×ByteArray×Int :=
 if 400 < l.length then ([],0,0,0,⟨#[]⟩,2) else if queueR l = true then (if l.length = 0 then ([],0,0,0,⟨#[]⟩,6) else (l.drop 1,(l.getD 0 z25).f0,(l.getD 0 z25).f1,(l.getD 0 z25).f2,(l.getD 0 z25).f3,0)) else ([],0,0,0,⟨#[]⟩,1)
theorem takeQ_length (l:List S25):(takeQ l).1.length≤400:=by
 unfold takeQ
 repeat' split
 all_goals first|(simp;done)|(simp only [List.length_drop];omega)
theorem specTake_ev (l:List S25):Ev (fun k=>spec_QueueTake.f k l) (takeQ l):=by
 unfold takeQ
 by_cases h4:400 < l.length
 ·rw [if_pos h4]
  refine Ev.congr (f:=fun _=>some _) (fun k=>?_) (Ev.now _)
  simp only [spec_QueueTake.f,spec_l03Ill.f,Option.bind_some];rw [if_pos (by omega)]
 ·rw [if_neg h4]
  refine Ev.congr (fun k=>?_) (Ev.bind (specQueue_ev l) (f:=fun k t=>if t = true then (if l.length = 0 then some ([],0,0,0,⟨#[]⟩,6) else some (l.drop 1,(l.getD 0 z25).f0,(l.getD 0 z25).f1,(l.getD 0 z25).f2,(l.getD 0 z25).f3,0)) else some ([],0,0,0,⟨#[]⟩,1)) ?_)
  ·simp only [spec_QueueTake.f,spec_l03Ill.f,Option.bind_some];rw [if_neg (by omega)]
   congr 1;funext t
   have h00:rd_T25 l 0 = l.getD 0 z25:=rdD_nat l 0
   by_cases h0:l.length = 0
   ·rw [if_pos h0,if_pos (show (l.length:Int) = 0 by omega)]
   ·rw [if_neg h0,if_neg (show ¬ (l.length:Int) = 0 by omega),if_pos (show (1:Int)≤l.length by omega),if_pos (show (0:Int) < l.length by omega),if_pos (show ([]:List S25).length + (List.drop 1 l).length < 3518437208883 by simp;omega),h00]
    rfl
  ·by_cases hq:queueR l = true
   ·simp only [if_pos hq]
    split <;> exact Ev.now _
   ·simp only [if_neg hq]
    exact Ev.now _
theorem implTake_ev (l:List S25):Ev (fun k=>impl_QueueTake.f k l) (takeQ l):=by
 refine Ev.bind (queueCode_ev l) ?_
 unfold takeQ
 by_cases h4:400 < l.length
 ·simp only [if_pos h4]
  exact Ev.now _
 ·simp only [if_neg h4]
  by_cases hq:queueR l = true
  ·simp only [if_pos hq,if_true]
   by_cases h0:l.length = 0
   ·rw [if_pos h0]
    refine Ev.congr (f:=fun _=>some _) (fun k=>?_) (Ev.now _)
    rw [if_pos (show (l.length:Int) = 0 by omega)]
   ·rw [if_neg h0]
    refine Ev.congr (f:=fun _=>some _) (fun k=>?_) (Ev.now _)
    have h00:rd_T25 l 0 = l.getD 0 z25:=rdD_nat l 0
    simp only [impl_Due_69.f]
    rw [if_neg (show ¬ (l.length:Int) = 0 by omega),if_pos (show (1:Int)≤l.length by omega),if_pos (show (List.drop 1 l).length < 3518437208883 by simp;omega),Option.bind_some,if_pos (show (0:Int) < l.length by omega),h00]
  ·simp only [if_neg hq]
   exact Ev.now _

/-- What is dropped of. -/
def dropQ (l:List S25) (n:Int):List S25×Int×Int×Int×ByteArray×Int :=
 if 400 < l.length then ([],0,0,0,⟨#[]⟩,2) else if queueR l = true then (l.filter (fun x=>!impl_QueueDrop.p n x),0,0,0,⟨#[]⟩,0) else ([],0,0,0,⟨#[]⟩,1)
theorem dropQ_length (l:List S25) (n:Int):(dropQ l n).1.length≤400:=by
 unfold dropQ
 repeat' split
 ·simp
 ·have:=List.length_filter_le (fun x=>!impl_QueueDrop.p n x) l
  simp only
  omega
 ·simp
theorem specDrop_l0 (l:List S25) (n:Int) (hl:l.length≤400):∀ (d i:Nat) (acc:List S25),i + d = l.length→acc.length≤i→Ev (fun k=>spec_l03Drop.l0 k l n acc (i:Int)) (acc ++ (l.drop i).filter (fun x=>!impl_QueueDrop.p n x))
 | 0,i,acc,h,ha=>by
  refine Ev.step (f:=fun _=>some acc) (fun k=>?_) ?_
  ·simp only [spec_l03Drop.l0];rw [if_neg (by omega)]
  ·rw [List.drop_of_length_le (by omega)]
   simpa using Ev.now acc
 | d + 1,i,acc,h,ha=>by
  have hi:i < l.length:=by omega
  have hw:wrap64 ((i:Int) + 1) = ((i + 1:Nat):Int):=wrap_succ hi (by omega)
  rw [drop_at l z25 hi]
  by_cases hc:(l.getD i z25).f2 = n
  ·have hp:impl_QueueDrop.p n (l.getD i z25) = true:=by simp [impl_QueueDrop.p,-List.getD_eq_getElem?_getD,hc]
   rw [List.filter_cons,hp]
   refine Ev.step (fun k=>?_) (specDrop_l0 l n hl d (i + 1) acc (by omega) (by omega))
   simp only [spec_l03Drop.l0]
   rw [if_pos (by omega),if_pos (by omega),rdD_nat,if_pos hc,hw]
  ·have hp:impl_QueueDrop.p n (l.getD i z25) = false:=by simp [impl_QueueDrop.p,-List.getD_eq_getElem?_getD,hc]
   rw [List.filter_cons,hp]
   have:=specDrop_l0 l n hl d (i + 1) (acc ++ [l.getD i z25]) (by omega) (by rw [List.length_append,List.length_singleton];omega)
   rw [List.append_assoc] at this
   refine Ev.step (fun k=>?_) this
   simp only [spec_l03Drop.l0]
   rw [if_pos (by omega),if_pos (by omega),rdD_nat,if_neg hc,if_pos (by omega),hw]
theorem specDrop_ev (l:List S25) (n:Int):Ev (fun k=>spec_QueueDrop.f k l n) (dropQ l n):=by
 unfold dropQ
 by_cases h4:400 < l.length
 ·rw [if_pos h4]
  refine Ev.congr (f:=fun _=>some _) (fun k=>?_) (Ev.now _)
  simp only [spec_QueueDrop.f,spec_l03Ill.f,Option.bind_some];rw [if_pos (by omega)]
 ·rw [if_neg h4]
  refine Ev.congr (fun k=>by simp only [spec_QueueDrop.f,spec_l03Ill.f,Option.bind_some];rw [if_neg (by omega)]) (Ev.bind (specQueue_ev l) ?_)
  by_cases hq:queueR l = true
  ·simp only [if_pos hq]
   have:=specDrop_l0 l n (by omega) l.length 0 [] (by omega) (by simp)
   rw [List.nil_append,List.drop_zero] at this
   exact Ev.bind (Ev.congr (fun k=>rfl) this) (Ev.now _)
  ·simp only [if_neg hq]
   exact Ev.now _
theorem implDrop_ev (l:List S25) (n:Int):Ev (fun k=>impl_QueueDrop.f k l n) (dropQ l n):=by
 refine Ev.bind (queueCode_ev l) ?_
 unfold dropQ
 by_cases h4:400 < l.length
 ·simp only [if_pos h4]
  exact Ev.now _
 ·simp only [if_neg h4]
  by_cases hq:queueR l = true
  ·simp only [if_pos hq,if_true]
   refine Ev.congr (f:=fun _=>some _) (fun k=>?_) (Ev.now _)
   rw [if_pos (by omega),impl_Due_69.f,if_pos (by omega),Option.bind_some]
  ·simp only [if_neg hq]
   exact Ev.now _

theorem evSome {α β:Type} {o:Option α} {x:α} {f:Nat→α→Option β} {r:β} (h:o = some x) (k:Ev (fun n=>f n x) r):Ev (fun n=>o.bind (f n)) r:=by subst h;exact k
/-- What is drawn lies below what was asked for; the place stays within the bytes. -/
theorem src_val (v m a:Int) (h:1 < a) (h2:a≤9223372036854775807):0≤spec_l01Src_n.val v m a∧spec_l01Src_n.val v m a < a:=by
 unfold spec_l01Src_n.val
 rw [u64w,u64w,show a % 18446744073709551616 = a by omega,Int.tmod_eq_emod_of_nonneg (by omega)]
 have h3:=Int.emod_nonneg ((v + m / 1048576) % 18446744073709551616) (show a≠0 by omega)
 have h4:=Int.emod_lt_of_pos ((v + m / 1048576) % 18446744073709551616) (show 0 < a by omega)
 rw [wrap_id (by omega) (by omega)]
 exact ⟨h3,h4⟩
theorem src_n (b:List Int) (p m z a:Int) (hb:b.length≤9223372036854775807) (h0:0≤p) (h1:p≤b.length) (ha:a≤9223372036854775807) :
  ∃ r p' m',spec_l01Src_n.f b p m z a = some (r,p',m',z)∧0≤r∧(r < a∨r = 0)∧0≤p'∧p'≤b.length:=by
 unfold spec_l01Src_n.f
 by_cases h:a≤1
 ·exact ⟨0,p,m,by rw [if_pos h],by omega,.inr rfl,h0,h1⟩
 ·rw [if_neg h,if_neg (by rw [u64w];omega)]
  by_cases h2:p < (b.length:Int)
  ·obtain ⟨h3,h4⟩:=src_val (IntKind.u64.wrap (rd b p)) (spec_l01Src_n.mx m) a (by omega) ha
   exact ⟨_,_,_,by rw [if_pos h2,if_pos h0,wrap_id (by omega) (by omega)],h3,.inl h4,by omega,by omega⟩
  ·obtain ⟨h3,h4⟩:=src_val 0 (spec_l01Src_n.mx m) a (by omega) ha
   exact ⟨_,_,_,by rw [if_neg h2],h3,.inl h4,h0,h1⟩
theorem src_loop (l:List Int) (hl:l.length≤9223372036854775807):∀ (d i:Nat) (m:Int),i + d = 64→∃ m' z,Ev (fun k=>spec_l01Source.l0 k l (i:Int) l 0 m 0) (l,0,m',z)∧0≤z∧z≤12
 | d,i,m,h=>by
  have hz:∃ z,(∀ m':Int,(if (wrap64 ((l.length:Int) / 20)) > 12 then (some (l,(0:Int),m',(12:Int))) else (some (l,0,m',wrap64 ((l.length:Int) / 20)))) = some (l,0,m',z))∧0≤z∧z≤12:=by
   rw [wrap_id (x:=(l.length:Int) / 20) (by omega) (by omega)]
   by_cases h12:(l.length:Int) / 20 > 12
   ·exact ⟨12,fun m'=>by rw [if_pos h12],by omega,by omega⟩
   ·exact ⟨(l.length:Int) / 20,fun m'=>by rw [if_neg h12],by omega,by omega⟩
  obtain ⟨z,hz,z0,z1⟩:=hz
  by_cases h1:(i:Int) < (l.length:Int)
  ·match d,h with
   | 0,h=>exact ⟨m,z,Ev.step (f:=fun _=>some (l,0,m,z)) (fun k=>by simp only [spec_l01Source.l0];rw [if_pos h1,if_neg (by omega)];exact hz m) (Ev.now _),z0,z1⟩
   | d + 1,h =>
    obtain ⟨m',z',hE,a0,a1⟩:=src_loop l hl d (i + 1) (IntKind.u64.wrap ((Go.bits .xor .u64 m (IntKind.u64.wrap (rd l (i:Int)))) * 1099511628211)) (by omega)
    exact ⟨m',z',Ev.step (fun k=>by simp only [spec_l01Source.l0];rw [if_pos h1,if_pos (by omega),if_pos (by omega),wrap_id (x:=(i:Int) + 1) (by omega) (by omega)];rfl) hE,a0,a1⟩
  ·exact ⟨m,z,Ev.step (f:=fun _=>some (l,0,m,z)) (fun k=>by simp only [spec_l01Source.l0];rw [if_neg h1];exact hz m) (Ev.now _),z0,z1⟩
theorem src_source (l:List Int) (hl:l.length≤9223372036854775807):∃ m z,Ev (fun k=>spec_l01Source.f k l) (l,0,m,z)∧0≤z∧z≤12:=by
 obtain ⟨m,z,h,z0,z1⟩:=src_loop l hl 64 0 88172645463325252 (by omega)
 exact ⟨m,z,Ev.congr (fun k=>rfl) h,z0,z1⟩

theorem src_one (b:List Int) (p m z a:Int) (hb:b.length≤9223372036854775807) (h0:0≤p) (h1:p≤b.length) (ha:a≤9223372036854775807) :
  ∃ c p' m',spec_l01Src_one.f b p m z a = some (c,p',m',z)∧0≤p'∧p'≤b.length:=by
 obtain ⟨r,p',m',h,_,_,h2,h3⟩:=src_n b p m z a hb h0 h1 ha
 exact ⟨r == 0,p',m',by unfold spec_l01Src_one.f;rw [h];rfl,h2,h3⟩

theorem src_edge (b:List Int) (p m z:Int) (hb:b.length≤9223372036854775807) (h0:0≤p) (h1:p≤b.length) :
  ∃ r p' m',spec_l01Src_edge.f b p m z = some (r,p',m',z)∧-9223372036854775808≤r∧r≤9223372036854775807∧0≤p'∧p'≤b.length:=by
 obtain ⟨r,p',m',h,h4,h5,h2,h3⟩:=src_n b p m z 14 hb h0 h1 (by omega)
 obtain ⟨q,rfl⟩:∃ q:Nat,r = (q:Int):=⟨r.toNat,by omega⟩
 have hq:q < 14:=by omega
 refine ⟨_,p',m',by unfold spec_l01Src_edge.f;rw [Option.bind_some,h,Option.bind_some];simp only [];rw [if_pos h4,if_pos (by simp only [List.length_cons,List.length_nil];omega)],?_,?_,h2,h3⟩ <;>
 ·rw [rd_nat]
  have:q = 0∨q = 1∨q = 2∨q = 3∨q = 4∨q = 5∨q = 6∨q = 7∨q = 8∨q = 9∨q = 10∨q = 11∨q = 12∨q = 13:=by omega
  rcases this with h|h|h|h|h|h|h|h|h|h|h|h|h|h <;> subst h <;> simp

theorem src_bytes_l (b:List Int) (z:Int) (n:Nat) (hn:n≤1000000) (hb:b.length≤9223372036854775807):∀ (d i:Nat) (xs:List Int) (p m:Int),i + d = n→xs.length = i→0≤p→p≤b.length →
  ∃ t p' m',Ev (fun k=>spec_l01Src_bytes.l0 k (n:Int) xs (i:Int) b p m z) (t,p',m',z)∧t.size = n∧0≤p'∧p'≤b.length
 | 0,i,xs,p,m,h,hx,h0,h1=>⟨strOfNums xs,p,m,Ev.step (f:=fun _=>some (strOfNums xs,p,m,z)) (fun k=>by simp only [spec_l01Src_bytes.l0];rw [if_neg (by omega)]) (Ev.now _),by rw [strOfNums_size];omega,h0,h1⟩
 | d + 1,i,xs,p,m,h,hx,h0,h1=>by
  obtain ⟨r,p',m',h4,h5,h6,h7,h8⟩:=src_n b p m z 256 hb h0 h1 (by omega)
  obtain ⟨t,p2,m2,hE,ht,h9,h10⟩:=src_bytes_l b z n hn hb d (i + 1) (xs ++ [r % 256]) p' m' (by omega) (by simp;omega) h7 h8
  refine ⟨t,p2,m2,Ev.step (fun k=>?_) hE,ht,h9,h10⟩
  simp only [spec_l01Src_bytes.l0]
  rw [if_pos (by omega),h4,Option.bind_some]
  simp only []
  rw [if_pos (by omega),wrap_succ (n:=n) (by omega) (by omega)]
theorem src_bytes (b:List Int) (z:Int) (n:Int) (hn0:0≤n) (hn:n≤1000000) (hb:b.length≤9223372036854775807) (p m:Int) (h0:0≤p) (h1:p≤b.length) :
  ∃ t p' m',Ev (fun k=>spec_l01Src_bytes.f k b p m z n) (t,p',m',z)∧t.size = n.toNat∧0≤p'∧p'≤b.length:=by
 obtain ⟨t,p',m',hE,h2,h3,h4⟩:=src_bytes_l b z n.toNat (by omega) hb n.toNat 0 [] p m (by omega) rfl h0 h1
 rw [Int.toNat_of_nonneg hn0] at hE
 exact ⟨t,p',m',Ev.congr (fun k=>rfl) hE,h2,h3,h4⟩

theorem src_due (b:List Int) (p m z:Int) (hb:b.length≤9223372036854775807) (h0:0≤p) (h1:p≤b.length) :
  ∃ (d:S25) (p' m':Int),Ev (fun k=>spec_l01Src_l03DueOf.f k b p m z) (d.f0,d.f1,d.f2,d.f3,p',m',z)∧0≤p'∧p'≤b.length:=by
 obtain ⟨a1,p1,m1,e1,_,_,u0,u1⟩:=src_n b p m z 6 hb h0 h1 (by omega)
 obtain ⟨a2,p2,m2,e2,_,_,u2,u3⟩:=src_n b p1 m1 z 9 hb u0 u1 (by omega)
 obtain ⟨a3,p3,m3,e3,_,_,u4,u5⟩:=src_n b p2 m2 z 4 hb u2 u3 (by omega)
 obtain ⟨a4,p4,m4,e4,v0,v1,u6,u7⟩:=src_n b p3 m3 z 3 hb u4 u5 (by omega)
 obtain ⟨t,p5,m5,e5,_,u8,u9⟩:=src_bytes b z a4 v0 (by omega) hb p4 m4 u6 u7
 obtain ⟨c,p6,m6,e6,w0,w1⟩:=src_one b p5 m5 z 15 hb u8 u9 (by omega)
 cases c
 ·exact ⟨⟨a1,a2,a3,t⟩,p6,m6,Ev.congr (fun k=>rfl) (evSome e1 (evSome e2 (evSome e3 (evSome e4 (Ev.bind e5 (evSome e6 (evElse Bool.false_ne_true (Ev.now _)))))))),w0,w1⟩
 ·obtain ⟨r,p7,m7,e7,_,_,w2,w3⟩:=src_n b p6 m6 z 4 hb w0 w1 (by omega)
  obtain ⟨r8,p8,m8,e8,x0,x1,w4,w5⟩:=src_n b p7 m7 z 3 hb w2 w3 (by omega)
  by_cases h2:r = 0
  ·exact ⟨⟨rd [(-1),1000000,1000001] r8,a2,a3,t⟩,p8,m8,Ev.congr (fun k=>rfl) (evSome e1 (evSome e2 (evSome e3 (evSome e4 (Ev.bind e5 (evSome e6 (evIf rfl (evSome e7 (evIf h2 (evSome rfl (evSome e8 (evIf x0 (evIf (by first|omega|(simp;omega)) (Ev.now _)))))))))))))),w4,w5⟩
  ·by_cases h3:r = 1
   ·obtain ⟨r9,p9,m9,e9,_,_,w6,w7⟩:=src_edge b p7 m7 z hb w2 w3
    exact ⟨⟨a1,r9,a3,t⟩,p9,m9,Ev.congr (fun k=>rfl) (evSome e1 (evSome e2 (evSome e3 (evSome e4 (Ev.bind e5 (evSome e6 (evIf rfl (evSome e7 (evElse h2 (evIf h3 (evSome e9 (Ev.now _)))))))))))),w6,w7⟩
   ·by_cases h4:r = 2
    ·exact ⟨⟨a1,a2,rd [(-1),99,100] r8,t⟩,p8,m8,Ev.congr (fun k=>rfl) (evSome e1 (evSome e2 (evSome e3 (evSome e4 (Ev.bind e5 (evSome e6 (evIf rfl (evSome e7 (evElse h2 (evElse h3 (evIf h4 (evSome rfl (evSome e8 (evIf x0 (evIf (by first|omega|(simp;omega)) (Ev.now _)))))))))))))))),w4,w5⟩
    ·have hw:wrap64 (399 + r8) = 399 + r8:=wrap_id (by omega) (by omega)
     exact ⟨⟨a1,a2,a3,strOfNums (List.replicate (wrap64 (399 + r8):Int).toNat 0)⟩,p8,m8,Ev.congr (fun k=>rfl) (evSome e1 (evSome e2 (evSome e3 (evSome e4 (Ev.bind e5 (evSome e6 (evIf rfl (evSome e7 (evElse h2 (evElse h3 (evElse h4 (evSome e8 (evIf (by first|(rw [hw];omega)|(simp only [];rw [hw];omega)) (evIf (by first|(rw [hw];omega)|(simp only [];rw [hw];omega)) (Ev.now _))))))))))))))),w4,w5⟩
theorem src_qfill (b:List Int) (z:Int) (hb:b.length≤9223372036854775807):∀ (d i:Nat) (xs:List S25) (p m:Int),i + d = 202→xs.length = i→0≤p→p≤b.length →
  ∃ l p' m',Ev (fun k=>spec_l01Src_l03Queue.l1 k xs (i:Int) b p m z) (l,p',m',z)∧l.length≤402∧0≤p'∧p'≤b.length
 | d,i,xs,p,m,h,hx,h0,h1=>by
  obtain ⟨r,p',m',h4,r0,r1,h2,h3⟩:=src_n b p m z 2 hb h0 h1 (by omega)
  have hw:wrap64 (200 + r) = 200 + r:=wrap_id (by omega) (by omega)
  by_cases hlt:(i:Int) < 200 + r
  ·match d,h with
   | 0,h=>omega
   | d + 1,h =>
    obtain ⟨l,p2,m2,hE,hl,h5,h6⟩:=src_qfill b z hb d (i + 1) (xs ++ [(⟨1,(i:Int),0,(⟨#[]⟩:ByteArray)⟩:S25)]) p' m' (by omega) (by simp;omega) h2 h3
    refine ⟨l,p2,m2,Ev.step (fun k=>?_) hE,hl,h5,h6⟩
    simp only [spec_l01Src_l03Queue.l1]
    rw [h4,Option.bind_some]
    simp only []
    rw [hw,if_pos hlt,if_pos (by omega),wrap_succ (n:=1000) (by omega) (by omega)]
  ·refine ⟨xs,p',m',Ev.step (f:=fun _=>some (xs,p',m',z)) (fun k=>?_) (Ev.now _),by omega,h2,h3⟩
   simp only [spec_l01Src_l03Queue.l1]
   rw [h4,Option.bind_some]
   simp only []
   rw [hw,if_neg hlt]
theorem src_qend (b:List Int) (z:Int) (hb:b.length≤9223372036854775807) (xs:List S25) (p m:Int) (hx:xs.length≤402) (h0:0≤p) (h1:p≤b.length) :
  ∃ l p' m',Ev (fun k=>spec_l01Src_l03Queue.j2 k xs b p m z) (l,p',m',z)∧l.length≤402∧0≤p'∧p'≤b.length:=by
 obtain ⟨c,p6,m6,e6,w0,w1⟩:=src_one b p m z 30 hb h0 h1 (by omega)
 cases c
 ·exact ⟨xs,p6,m6,Ev.step (fun k=>rfl) (evSome e6 (evElse Bool.false_ne_true (Ev.now _))),hx,w0,w1⟩
 ·obtain ⟨l,p2,m2,hE,r⟩:=src_qfill b z hb 202 0 [] p6 m6 (by omega) rfl w0 w1
  exact ⟨l,p2,m2,Ev.step (fun k=>rfl) (evSome e6 (evIf rfl hE)),r⟩
theorem src_queue_l (b:List Int) (z:Int) (hb:b.length≤9223372036854775807):∀ (d:Nat) (xs:List S25) (p m:Int),d≤100→xs.length≤401→0≤p→p≤b.length →
  ∃ l p' m',Ev (fun k=>spec_l01Src_l03Queue.l0 k xs (d:Int) b p m z) (l,p',m',z)∧l.length≤402∧0≤p'∧p'≤b.length
 | 0,xs,p,m,hd,hx,h0,h1=>by
  obtain ⟨c,p6,m6,e6,w0,w1⟩:=src_one b p m z 15 hb h0 h1 (by omega)
  obtain ⟨l1,p1,m1,E1,r1⟩:=src_qend b z hb xs p6 m6 (by omega) w0 w1
  have J1:Ev (fun k=>spec_l01Src_l03Queue.j1 k xs false b p6 m6 z) (l1,p1,m1,z):=Ev.step (fun k=>by simp only [spec_l01Src_l03Queue.j1];rw [if_neg (by decide)]) E1
  cases c
  ·exact ⟨l1,p1,m1,Ev.step (fun k=>by simp only [spec_l01Src_l03Queue.l0];rw [if_neg (by omega)]) (evSome e6 (evElse Bool.false_ne_true J1)),r1⟩
  ·by_cases hz:(xs.length:Int) > 0
   ·obtain ⟨l2,p2,m2,E2,r2⟩:=src_qend b z hb (xs ++ [(⟨(rd_T25 xs 0).f0,(rd_T25 xs 0).f1,(rd_T25 xs 0).f2,(rd_T25 xs 0).f3⟩:S25)]) p6 m6 (by simp;omega) w0 w1
    have J2:Ev (fun k=>spec_l01Src_l03Queue.j1 k xs (decide ((xs.length:Int) > 0)) b p6 m6 z) (l2,p2,m2,z):=Ev.step (fun k=>by simp only [spec_l01Src_l03Queue.j1];rw [if_pos (decide_eq_true hz),if_pos (by omega),if_pos (by omega)]) E2
    exact ⟨l2,p2,m2,Ev.step (fun k=>by simp only [spec_l01Src_l03Queue.l0];rw [if_neg (by omega)]) (evSome e6 (evIf rfl J2)),r2⟩
   ·rw [← decide_eq_false hz] at J1
    exact ⟨l1,p1,m1,Ev.step (fun k=>by simp only [spec_l01Src_l03Queue.l0];rw [if_neg (by omega)]) (evSome e6 (evIf rfl J1)),r1⟩
 | d + 1,xs,p,m,hd,hx,h0,h1=>by
  obtain ⟨u,p1,m1,e1,u0,u1⟩:=src_due b p m z hb h0 h1
  have e2:=specQueuePut_ev xs u (by omega)
  have hz:=queuePutS_length xs u
  have hw:wrap64 (((d + 1:Nat):Int) - 1) = (d:Int):=by rw [wrap_id (by omega) (by omega)];omega
  by_cases hc:(queuePutS xs u).2.2.2.2.2 = 0
  ·obtain ⟨l,p2,m2,E,r⟩:=src_queue_l b z hb d (queuePutS xs u).1 p1 m1 (by omega) hz u0 u1
   exact ⟨l,p2,m2,Ev.step (fun k=>by simp only [spec_l01Src_l03Queue.l0];rw [if_pos (by omega),hw]) (Ev.bind e1 (Ev.bind e2 (evIf hc E))),r⟩
  ·obtain ⟨l,p2,m2,E,r⟩:=src_queue_l b z hb d xs p1 m1 (by omega) hx u0 u1
   exact ⟨l,p2,m2,Ev.step (fun k=>by simp only [spec_l01Src_l03Queue.l0];rw [if_pos (by omega),hw]) (Ev.bind e1 (Ev.bind e2 (evElse hc E))),r⟩
theorem src_queue (b:List Int) (z:Int) (hb:b.length≤9223372036854775807) (p m:Int) (h0:0≤p) (h1:p≤b.length) :
  ∃ l p' m',Ev (fun k=>spec_l01Src_l03Queue.f k b p m z) (l,p',m',z)∧l.length≤402∧0≤p'∧p'≤b.length:=by
 obtain ⟨r,p1,m1,e1,r0,r1,q0,q1⟩:=src_n b p m z 9 hb h0 h1 (by omega)
 obtain ⟨q,rfl⟩:∃ q:Nat,r = (q:Int):=⟨r.toNat,by omega⟩
 obtain ⟨l,p2,m2,E,h⟩:=src_queue_l b z hb q [] p1 m1 (by omega) (by simp) q0 q1
 exact ⟨l,p2,m2,Ev.congr (fun k=>rfl) (evSome e1 E),h⟩

theorem drawQPut (l:List Int) (hl:l.length≤9223372036854775807):∃ (q:List S25) (d:S25),Ev (fun k=>spec_DrawQueuePut.f k l) (q,d.f0,d.f1,d.f2,d.f3)∧q.length≤402:=by
 obtain ⟨mx,z,h,_,_⟩:=src_source l hl
 obtain ⟨q,p1,m1,h1,hq,q0,q1⟩:=src_queue l z hl 0 mx (by omega) (by omega)
 obtain ⟨d,p2,m2,h2,q2,q3⟩:=src_due l p1 m1 z hl q0 q1
 exact ⟨q,d,Ev.congr (fun k=>rfl) (Ev.bind h (Ev.bind h1 (Ev.bind h2 (Ev.now _)))),hq⟩
theorem drawQTake (l:List Int) (hl:l.length≤9223372036854775807):∃ q:List S25,Ev (fun k=>spec_DrawQueueTake.f k l) q∧q.length≤402:=by
 obtain ⟨mx,z,h,_,_⟩:=src_source l hl
 obtain ⟨q,p1,m1,h1,hq,q0,q1⟩:=src_queue l z hl 0 mx (by omega) (by omega)
 exact ⟨q,Ev.congr (fun k=>rfl) (Ev.bind h (Ev.bind h1 (Ev.now _))),hq⟩
theorem drawQDrop (l:List Int) (hl:l.length≤9223372036854775807):∃ (q:List S25) (n:Int),Ev (fun k=>spec_DrawQueueDrop.f k l) (q,n)∧q.length≤402:=by
 obtain ⟨mx,z,h,_,_⟩:=src_source l hl
 obtain ⟨q,p1,m1,h1,hq,q0,q1⟩:=src_queue l z hl 0 mx (by omega) (by omega)
 obtain ⟨n,p2,m2,h2,_,_,q2,q3⟩:=src_n l p1 m1 z 4 hl q0 q1 (by omega)
 exact ⟨q,n,Ev.congr (fun k=>rfl) (Ev.bind h (Ev.bind h1 (evSome h2 (Ev.now _)))),hq⟩
/-! Right queues. -/
theorem queueR_iff (l:List S25):queueR l = true ↔ l.length≤200∧(∀ x ∈ l,dueR x.f0 x.f1 x.f2 x.f3 = true)∧l.Pairwise (fun x y=>dueLess x y = true):=by
 constructor
 ·intro h
  have hlt:=queueR_lt h
  unfold queueR at h
  rw [Bool.and_eq_true,decide_eq_true_iff,allB_iff] at h
  refine ⟨h.1,fun x hx=>?_,?_⟩
  ·obtain ⟨i,hi,rfl⟩:=List.getElem_of_mem hx
   have:=(dueT_iff.1 (h.2 i (by omega) (by omega))).1
   simpa [List.getD,hi] using this
  ·rw [List.pairwise_iff_getElem]
   intro i j hi hj hij
   have:=hlt j i hij hj
   simpa [List.getD,hi,hj] using this
 ·rintro ⟨h1,h2,h3⟩
  unfold queueR
  rw [Bool.and_eq_true,decide_eq_true_iff,allB_iff]
  refine ⟨h1,fun i _ hi=>dueT_iff.2 ⟨?_,?_⟩⟩
  ·have hi':i < l.length:=by omega
   have:=h2 _ (List.getElem_mem hi')
   simpa [List.getD,hi'] using this
  ·rcases Nat.eq_zero_or_pos i with h|h
   ·exact .inl h
   ·right
    have hi':i < l.length:=by omega
    have:=(List.pairwise_iff_getElem.1 h3) (i - 1) i (by omega) hi' (by omega)
    simpa [List.getD,hi',show i - 1 < l.length by omega] using this
theorem dueLess_asym {x y:S25} (h:dueLess x y = true):dueLess y x = false:=by
 rw [Bool.eq_false_iff]
 intro h2
 rw [dueLess_iff] at h h2
 omega
/-- What is ahead of all is put ahead. -/
theorem put_front (d:S25) (l:List S25) (h:queueR (d :: l) = true):queuePutS l d = (d :: l,0,0,0,⟨#[]⟩,0):=by
 obtain ⟨h1,h2,h3⟩:=(queueR_iff _).1 h
 rw [List.pairwise_cons] at h3
 simp only [List.length_cons] at h1
 have hr:queueR l = true:=(queueR_iff _).2 ⟨by omega,fun x hx=>h2 x (List.mem_cons_of_mem _ hx),h3.2⟩
 have hd:=h2 d List.mem_cons_self
 have hm:qm l d = 0:=by
  unfold qm
  cases l with
  | nil=>rfl
  | cons a l =>
   have:=dueLess_asym (h3.1 a List.mem_cons_self)
   rw [List.takeWhile_cons_of_neg (by rw [this];decide)]
   rfl
 unfold queuePutS
 rw [if_neg (by omega),if_pos (by rw [hr,hd];rfl),hm]
 unfold qFin
 rw [if_neg ?_,if_neg (by omega)]
 ·simp
 ·rintro ⟨hl,hf⟩
  have h0:l.getD 0 z25 = l[0]:=by simp [List.getD,hl]
  rw [h0,h3.1 _ (List.getElem_mem hl)] at hf
  cases hf
theorem put_right (l:List S25) (d:S25) (h:(queuePutS l d).2.2.2.2.2 = 0):queueR (queuePutS l d).1 = true:=by
 unfold queuePutS at h ⊢
 by_cases h1:400 < l.length
 ·rw [if_pos h1] at h;cases h
 rw [if_neg h1] at h ⊢
 by_cases h2:(queueR l && dueR d.f0 d.f1 d.f2 d.f3) = true
 rotate_left
 ·rw [if_neg h2] at h;cases h
 rw [if_pos h2] at h ⊢
 rw [Bool.and_eq_true] at h2
 unfold qFin at h ⊢
 by_cases h3:qm l d < l.length∧dueLess d (l.getD (qm l d) z25) = false
 ·rw [if_pos h3] at h;cases h
 rw [if_neg h3] at h ⊢
 by_cases h4:200≤l.length
 ·rw [if_pos h4] at h;cases h
 rw [if_neg h4]
 obtain ⟨r1,r2,r3⟩:=(queueR_iff _).1 h2.1
 have hqm:qm l d≤l.length:=(List.takeWhile_sublist _).length_le
 refine (queueR_iff _).2 ⟨by simp;omega,fun x hx=>?_,?_⟩
 ·rw [List.mem_append,List.mem_append] at hx
  rcases hx with (hx|hx)|hx
  ·exact r2 x (List.mem_of_mem_take hx)
  ·rw [List.mem_singleton.1 hx];exact h2.2
  ·exact r2 x (List.mem_of_mem_drop hx)
 ·have ht:∀ x ∈ l.take (qm l d),dueLess x d = true:=by
   intro x hx
   have e:l.take (qm l d) = l.takeWhile (fun x=>dueLess x d):=by
    have h5:=List.takeWhile_append_dropWhile (p:=fun x=>dueLess x d) (l:=l)
    have h6:(l.takeWhile (fun x=>dueLess x d) ++ l.dropWhile (fun x=>dueLess x d)).take (l.takeWhile (fun x=>dueLess x d)).length = l.takeWhile (fun x=>dueLess x d):=List.take_left
    rw [h5] at h6
    exact h6
   rw [e] at hx
   have h7:=List.all_takeWhile (p:=fun x=>dueLess x d) (l:=l)
   exact (List.all_eq_true.1 h7) x hx
  have hd:∀ x ∈ l.drop (qm l d),dueLess d x = true:=by
   intro x hx
   by_cases hlt:qm l d < l.length
   ·have h0:dueLess d (l.getD (qm l d) z25) = true:=by
     cases e:dueLess d (l.getD (qm l d) z25)
     ·exact absurd ⟨hlt,e⟩ h3
     ·rfl
    obtain ⟨i,hi,rfl⟩:=List.getElem_of_mem hx
    rw [List.length_drop] at hi
    rw [List.getElem_drop]
    rw [show l.getD (qm l d) z25 = l[qm l d] by simp [List.getD,hlt]] at h0
    rcases Nat.eq_zero_or_pos i with e|e
    ·subst e;exact h0
    ·exact dueLess_trans h0 ((List.pairwise_iff_getElem.1 r3) (qm l d) (qm l d + i) hlt (by omega) (by omega))
   ·rw [List.drop_of_length_le (by omega)] at hx;cases hx
  rw [List.pairwise_append,List.pairwise_append]
  refine ⟨⟨r3.sublist (List.take_sublist _ _),List.pairwise_singleton _ _,fun x hx y hy=>by rw [List.mem_singleton.1 hy];exact ht x hx⟩,r3.sublist (List.drop_sublist _ _),fun x hx y hy=>?_⟩
  rw [List.mem_append] at hx
  rcases hx with hx|hx
  ·exact dueLess_trans (ht x hx) (hd y hy)
  ·rw [List.mem_singleton.1 hx];exact hd y hy
theorem take_right (l:List S25) (h:(takeQ l).2.2.2.2.2 = 0):∃ d r,l = d :: r∧takeQ l = (r,d.f0,d.f1,d.f2,d.f3,0)∧queueR l = true∧queueR r = true:=by
 unfold takeQ at h ⊢
 by_cases h1:400 < l.length
 ·rw [if_pos h1] at h;cases h
 rw [if_neg h1] at h ⊢
 by_cases h2:queueR l = true
 rotate_left
 ·rw [if_neg h2] at h;cases h
 rw [if_pos h2] at h ⊢
 cases l with
 | nil=>simp at h
 | cons d r =>
  rw [if_neg (by simp)]
  obtain ⟨r1,r2,r3⟩:=(queueR_iff _).1 h2
  rw [List.pairwise_cons] at r3
  exact ⟨d,r,rfl,rfl,h2,(queueR_iff _).2 ⟨by simp at r1;omega,fun x hx=>r2 x (List.mem_cons_of_mem _ hx),r3.2⟩⟩
theorem drop_right (l:List S25) (n:Int) (h:(dropQ l n).2.2.2.2.2 = 0):queueR (dropQ l n).1 = true:=by
 unfold dropQ at h ⊢
 by_cases h1:400 < l.length
 ·rw [if_pos h1] at h;cases h
 rw [if_neg h1] at h ⊢
 by_cases h2:queueR l = true
 rotate_left
 ·rw [if_neg h2] at h;cases h
 rw [if_pos h2]
 obtain ⟨r1,r2,r3⟩:=(queueR_iff _).1 h2
 refine (queueR_iff _).2 ⟨Nat.le_trans (List.length_filter_le _ _) r1,fun x hx=>r2 x (List.mem_filter.1 hx).1,r3.filter _⟩
theorem drop_none (l:List S25) (n:Int):∀ x ∈ (dropQ l n).1,x.f2≠n:=by
 intro x hx
 unfold dropQ at hx
 by_cases h1:400 < l.length
 ·rw [if_pos h1] at hx;cases hx
 rw [if_neg h1] at hx
 by_cases h2:queueR l = true
 ·rw [if_pos h2] at hx
  have:=(List.mem_filter.1 hx).2
  simpa [impl_QueueDrop.p] using this
 ·rw [if_neg h2] at hx;cases hx
theorem lwQueue_refl (l:List S25) (hl:l.length≤1048576):Ev (fun k=>laws_lwQueue.f k l l) true:=by
 have key:∀ (d i:Nat),i + d = l.length→Ev (fun k=>laws_lwQueue.l0 k l l (i:Int)) true:=by
  intro d
  induction d with
  | zero=>intro i h;exact Ev.step (f:=fun _=>some true) (fun k=>by simp only [laws_lwQueue.l0];rw [if_neg (by omega)]) (Ev.now _)
  | succ d ih =>
   intro i h
   refine Ev.step (fun k=>?_) (ih (i + 1) (by omega))
   simp only [laws_lwQueue.l0]
   rw [if_pos (by omega),if_pos (by omega),if_pos (by omega),if_neg (by simp),wrap_succ (n:=l.length) (by omega) (by omega)]
 exact Ev.congr (fun k=>by simp only [laws_lwQueue.f];rw [if_pos trivial];rfl) (key l.length 0 (by omega))
theorem lwQueues_refl (l:List S25) (a b c:Int) (t:ByteArray) (d:Int) (hl:l.length≤1048576) (h:d = 0→queueR l = true):Ev (fun k=>laws_lwQueues.f k l a b c t d l a b c t d) true:=by
 refine Ev.congr (fun k=>rfl) ?_
 refine evIf rfl ?_
 refine evIf (by simp) ?_
 refine Ev.bind (lwQueue_refl l hl) ?_
 refine evIf rfl ?_
 by_cases hd:d = 0
 ·refine evIf hd ?_
  have:=specQueue_ev l
  rw [h hd] at this
  exact Ev.bind this (Ev.now _)
 ·exact evElse hd (Ev.now _)
theorem queueR_drop {l:List S25} (h:queueR l = true) (i:Nat):queueR (l.drop i) = true:=by
 obtain ⟨r1,r2,r3⟩:=(queueR_iff _).1 h
 exact (queueR_iff _).2 ⟨by rw [List.length_drop];omega,fun x hx=>r2 x (List.mem_of_mem_drop hx),r3.sublist (List.drop_sublist _ _)⟩
theorem queue_back (X:List S25) (hX:queueR X = true) (a b c:Int) (t:ByteArray) (e:Int):∀ i:Nat,i≤X.length→Ev (fun k=>laws_FnQueue.l1 k (X.drop i) ((i:Int) - 1) X a b c t e) true
 | 0,_=>by
  have hz:=((queueR_iff _).1 hX).1
  refine Ev.step (fun k=>by simp only [laws_FnQueue.l1];rw [if_neg (by omega)]) ?_
  rw [List.drop_zero]
  exact Ev.bind (lwQueue_refl X (by omega)) (Ev.now _)
 | i + 1,h=>by
  have hz:=((queueR_iff _).1 hX).1
  have hi:i < X.length:=by omega
  have hd:X.drop i = rd_T25 X (i:Int) :: X.drop (i + 1):=by rw [rdD_nat];exact drop_at X z25 hi
  have hp:=put_front (rd_T25 X (i:Int)) (X.drop (i + 1)) (by rw [← hd];exact queueR_drop hX i)
  have e1:=implQueuePut_ev (X.drop (i + 1)) (rd_T25 X (i:Int)) (by rw [List.length_drop];omega)
  rw [hp,← hd] at e1
  rw [show ((i + 1:Nat):Int) - 1 = (i:Int) by omega]
  refine Ev.step (fun k=>by simp only [laws_FnQueue.l1];rw [if_pos (by omega),if_pos (by omega),if_pos (by omega)]) (Ev.bind e1 ?_)
  simp only []
  rw [wrap_id (x:=(i:Int) - 1) (by omega) (by omega)]
  exact queue_back X hX a b c t e i (by omega)
theorem FnQueue:laws_FnQueue.Goal:=by
 intro l0 l1 hl0 _ hl1 _
 have last:∀ k,laws_FnQueue.j0 (k + 1) l0 l1 true = some true:=fun k=>by simp only [laws_FnQueue.j0];rw [if_pos trivial]
 by_cases hb:(l0.length:Int) > 1048576
 ·exact ⟨1,by simp only [laws_FnQueue.f];rw [if_pos hb];exact last 0⟩
 by_cases hb2:(l1.length:Int) > 1048576
 ·exact ⟨1,by simp only [laws_FnQueue.f];rw [if_neg hb,decide_eq_true hb2];exact last 0⟩
 obtain ⟨q,d,hd1,hq⟩:=drawQPut l0 hl0
 obtain ⟨t,hd2,ht⟩:=drawQTake l1 hl1
 obtain ⟨p,n,hd3,hp⟩:=drawQDrop l1 hl1
 have x1:=implQueuePut_ev q d (by omega)
 have x2:=specQueuePut_ev q d (by omega)
 have xz:=queuePutS_length q d
 have xr:=put_right q d
 have y1:=implTake_ev t
 have y2:=specTake_ev t
 have yz:=takeQ_length t
 have yr:=take_right t
 have z1:=implDrop_ev p n
 have z2:=specDrop_ev p n
 have zz:=dropQ_length p n
 have zr:=drop_right p n
 have zn:=drop_none p n
 generalize queuePutS q d = X at x1 x2 xz xr
 generalize takeQ t = Y at y1 y2 yz yr
 generalize dropQ p n = Z at z1 z2 zz zr zn
 obtain ⟨X1,X2,X3,X4,X5,X6⟩:=X
 obtain ⟨Y1,Y2,Y3,Y4,Y5,Y6⟩:=Y
 obtain ⟨Z1,Z2,Z3,Z4,Z5,Z6⟩:=Z
 simp only at xz xr yz yr zz zr zn
 have t3:Ev (fun k=>laws_FnQueue.j3 k false X1 X2 X3 X4 X5 X6) true:=by
  refine Ev.step (fun k=>by simp only [laws_FnQueue.j3];rw [if_neg (by decide)]) ?_
  by_cases hc:X6 = 0
  ·refine evIf hc ?_
   have:=queue_back X1 (xr hc) X2 X3 X4 X5 X6 X1.length (Nat.le_refl _)
   rw [List.drop_of_length_le (Nat.le_refl _)] at this
   rw [wrap_id (x:=(X1.length:Int) - 1) (by omega) (by omega)]
   exact this
  ·exact evElse hc (Ev.now _)
 have t2:∀ dd i:Nat,i + dd = Z1.length→Ev (fun k=>laws_FnQueue.l0 k t n (i:Int) X1 X2 X3 X4 X5 X6 Y1 Y2 Y3 Y4 Y5 Y6 Z1 Z2 Z3 Z4 Z5 Z6) true:=by
  intro dd
  induction dd with
  | zero =>
   intro i h
   refine Ev.step (fun k=>by simp only [laws_FnQueue.l0];rw [if_neg (by omega)]) ?_
   by_cases hc:Y6 = 0
   ·obtain ⟨d',r,e1,e2,e3,e4⟩:=yr hc
    simp only [Prod.mk.injEq] at e2
    obtain ⟨rfl,rfl,rfl,rfl,rfl,rfl⟩:=e2
    refine evIf rfl ?_
    have hpf:=put_front d' Y1 (by rw [← e1];exact e3)
    have e5:=implQueuePut_ev Y1 d' (by omega)
    rw [hpf,← e1] at e5
    refine Ev.bind e5 ?_
    refine Ev.bind (lwQueue_refl t (by omega)) ?_
    exact t3
   ·exact evElse hc t3
  | succ dd ih =>
   intro i h
   have hi:i < Z1.length:=by omega
   have hne:(rd_T25 Z1 (i:Int)).f2≠n:=by
    rw [rdD_nat,show Z1.getD i z25 = Z1[i] by simp [List.getD,hi]]
    exact zn _ (List.getElem_mem hi)
   refine Ev.step (fun k=>by simp only [laws_FnQueue.l0];rw [if_pos (by omega),if_pos (by omega),if_neg hne,wrap_succ (n:=Z1.length) (by omega) (by omega)]) (ih (i + 1) (by omega))
 refine Ev.rounds (Ev.congr (fun k=>by simp only [laws_FnQueue.f];rw [if_neg hb,decide_eq_false hb2]) ?_)
 refine Ev.step (fun k=>by simp only [laws_FnQueue.j0];rw [if_neg (by decide)]) (Ev.bind hd1 ?_)
 refine Ev.bind x1 ?_
 refine Ev.bind hd2 ?_
 refine Ev.bind y1 ?_
 refine Ev.bind hd3 ?_
 refine Ev.bind z1 ?_
 refine Ev.bind x2 ?_
 refine Ev.bind (lwQueues_refl X1 X2 X3 X4 X5 X6 (by omega) xr) ?_
 refine evIf rfl ?_
 refine Ev.bind y2 ?_
 refine Ev.bind (lwQueues_refl Y1 Y2 Y3 Y4 Y5 Y6 (by omega) (fun h=>by obtain ⟨d',r,e1,e2,e3,e4⟩:=yr h;simp only [Prod.mk.injEq] at e2;rw [e2.1];exact e4)) ?_
 refine evIf rfl ?_
 refine Ev.bind z2 ?_
 refine Ev.bind (lwQueues_refl Z1 Z2 Z3 Z4 Z5 Z6 (by omega) zr) ?_
 refine evIf rfl ?_
 refine Ev.bind (implQueue_ev q) ?_
 refine Ev.bind (specQueue_ev q) ?_
 rw [bne_self_eq_false]
 exact Ev.step (fun k=>by simp only [laws_FnQueue.j1];rw [if_neg (by decide)];rfl) (t2 Z1.length 0 (by omega))

end Go.Proofs.Ytaiiikfeaokmhaa.Pure
