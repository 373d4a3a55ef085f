/- Laid by this session's program pp.py (over the kit's printer) out of the translation: Go functions as Lean functions, and that the calls come to them. -/
import Derived.Test.YtkgjikjnciihmaaPFnChancex0
import Derived.Test.YtkgjikjnciihmaaPFnChancex1
import Derived.Test.YtkgjikjnciihmaaPFnChancex2
import Derived.Test.YtkgjikjnciihmaaPFnChancex3
import Derived.Test.YtkgjikjnciihmaaPFnChancex4
import Derived.Test.YtkgjikjnciihmaaPFnChancex5
import Derived.Test.YtkgjikjnciihmaaPFnChancex6
import Derived.Test.YtkgjikjnciihmaaPFnChancex7
namespace Go.Proofs.Ytkgjikjnciihmaa.PFnChance
open Go.RowKit Go.Proofs.YtkgjikjnciihmaaW.PrintWords Go.Proofs.YtkgjikjnciihmaaW.PrintLast Go.Proofs.YtkgjikjnciihmaaW.PrintMore
attribute [local go_sem] max2_int min2_int max_two min_two max_three min_three max_four min_four   -- for this text's walks alone
set_option linter.unusedVariables false
set_option linter.unusedSimpArgs false

attribute [local go_sem high] eqA60
/-! ### laws_FnChance: function 6 -/
mutual
def laws_FnChance.j0 : Nat → List Int → List Int → Bool → Option (Bool)
  | 0, _, _, _ => none
  | k + 1, x0, x1, x24 => if x24 = true then (some true) else ((spec_DrawChance.f k x0).bind fun bt400 => ((impl_Chance.f bt400.1 bt400.2).bind fun bt402 => ((spec_DrawShuffle.f k x1).bind fun bt405 => ((impl_Shuffle.f bt405.1 bt405.2).bind fun bt409 => ((spec_Shuffle.f k bt405.1 bt405.2).bind fun bt414 => ((spec_DrawSetPut.f k x0).bind fun bt419 => ((impl_SetPut.f k bt419.1 bt419.2).bind fun t423 => ((impl_SetDrop.f k bt419.1 bt419.2).bind fun t426 => ((spec_Chance.f bt400.1 bt400.2).bind fun bt429 => (if (!(bt402.1 == bt429.1) || (!(bt402.2 == bt429.2))) = true then (laws_FnChance.j1 k bt400.1 bt400.2 bt405.1 bt405.2 bt419.1 bt419.2 t423 t426 true bt402.1 bt402.2 bt409.1 bt409.2) else (if bt409.1 = bt414.1 then ((laws_lwNums.f k bt409.2 bt414.2).bind fun t431 => (if t431 = true then ((spec_SetPut.f k bt419.1 bt419.2).bind fun t432 => ((laws_lwNums.f k t423 t432).bind fun t435 => (if t435 = true then ((spec_SetDrop.f k bt419.1 bt419.2).bind fun t436 => ((laws_lwNums.f k t426 t436).bind fun t439 => (if t439 = true then ((impl_SetHas.f k bt419.1 bt419.2).bind fun t440 => ((spec_SetHas.f k bt419.1 bt419.2).bind fun t441 => (if (t440 != t441) = true then (laws_FnChance.j1 k bt400.1 bt400.2 bt405.1 bt405.2 bt419.1 bt419.2 t423 t426 true bt402.1 bt402.2 bt409.1 bt409.2) else ((impl_SetRight.f k bt419.1).bind fun t442 => ((spec_SetRight.f k bt419.1).bind fun t443 => (laws_FnChance.j1 k bt400.1 bt400.2 bt405.1 bt405.2 bt419.1 bt419.2 t423 t426 (t442 != t443) bt402.1 bt402.2 bt409.1 bt409.2)))))) else (laws_FnChance.j1 k bt400.1 bt400.2 bt405.1 bt405.2 bt419.1 bt419.2 t423 t426 true bt402.1 bt402.2 bt409.1 bt409.2)))) else (laws_FnChance.j1 k bt400.1 bt400.2 bt405.1 bt405.2 bt419.1 bt419.2 t423 t426 true bt402.1 bt402.2 bt409.1 bt409.2)))) else (laws_FnChance.j1 k bt400.1 bt400.2 bt405.1 bt405.2 bt419.1 bt419.2 t423 t426 true bt402.1 bt402.2 bt409.1 bt409.2))) else (laws_FnChance.j1 k bt400.1 bt400.2 bt405.1 bt405.2 bt419.1 bt419.2 t423 t426 true bt402.1 bt402.2 bt409.1 bt409.2))))))))))))
def laws_FnChance.j1 : Nat → Int → Int → List Int → Int → List Int → Int → List Int → List Int → Bool → Int → Int → Int → List Int → Option (Bool)
  | 0, _, _, _, _, _, _, _, _, _, _, _, _, _ => none
  | k + 1, x5, x6, x8, x9, x12, x13, x14, x15, x106, x405000, x405001, x414000, x414001 => if x106 = true then (some false) else (if x5 ≥ 0 then (if x5 ≤ 2147483647 then (if x6 ≥ 1 then (if x6 ≤ 1000000 then (if x405001 < 0 then (laws_FnChance.j2 k x8 x9 x12 x13 x14 x15 true x414000 x414001) else (if x405001 ≥ x6 then (laws_FnChance.j2 k x8 x9 x12 x13 x14 x15 true x414000 x414001) else (if x405000 < 0 then (laws_FnChance.j2 k x8 x9 x12 x13 x14 x15 true x414000 x414001) else (laws_FnChance.j2 k x8 x9 x12 x13 x14 x15 (decide (x405000 > 2147483647)) x414000 x414001)))) else (laws_FnChance.j2 k x8 x9 x12 x13 x14 x15 false x414000 x414001)) else (laws_FnChance.j2 k x8 x9 x12 x13 x14 x15 false x414000 x414001)) else (laws_FnChance.j2 k x8 x9 x12 x13 x14 x15 false x414000 x414001)) else (laws_FnChance.j2 k x8 x9 x12 x13 x14 x15 false x414000 x414001))
def laws_FnChance.j2 : Nat → List Int → Int → List Int → Int → List Int → List Int → Bool → Int → List Int → Option (Bool)
  | 0, _, _, _, _, _, _, _, _, _ => none
  | k + 1, x8, x9, x12, x13, x14, x15, x141, x414000, x414001 => if x141 = true then (some false) else (if x9 ≥ 0 then (laws_FnChance.j3 k x8 x12 x13 x14 x15 (decide (x9 ≤ 2147483647)) x414000 x414001) else (laws_FnChance.j3 k x8 x12 x13 x14 x15 false x414000 x414001))
def laws_FnChance.j3 : Nat → List Int → List Int → Int → List Int → List Int → Bool → Int → List Int → Option (Bool)
  | 0, _, _, _, _, _, _, _, _ => none
  | k + 1, x8, x12, x13, x14, x15, x147, x414000, x414001 => if x147 = true then (laws_FnChance.l0 k x8 x12 x13 x14 x15 0 x414000 x414001) else (laws_FnChance.j5 k x12 x13 x14 x15)
def laws_FnChance.j5 : Nat → List Int → Int → List Int → List Int → Option (Bool)
  | 0, _, _, _, _ => none
  | k + 1, x12, x13, x14, x15 => (spec_SetRight.f k x12).bind fun t448 => (if t448 = true then (laws_FnChance.j6 k x13 x14 x15 (decide ((x12.length : Int) ≥ 400))) else (laws_FnChance.j6 k x13 x14 x15 true))
def laws_FnChance.j6 : Nat → Int → List Int → List Int → Bool → Option (Bool)
  | 0, _, _, _, _ => none
  | k + 1, x13, x14, x15, x175 => if x175 = true then (some true) else ((impl_SetHas.f k x14 x13).bind fun t449 => (if t449 = true then ((impl_SetHas.f k x15 x13).bind fun t450 => (if t450 = true then (some false) else ((impl_SetDrop.f k x14 x13).bind fun t451 => ((laws_lwNums.f k t451 x15).bind fun t454 => (if t454 = true then ((impl_SetPut.f k x15 x13).bind fun t455 => ((laws_lwNums.f k t455 x14).bind fun t458 => (some t458))) else (some false)))))) else (some false)))
def laws_FnChance.l0 : Nat → List Int → List Int → Int → List Int → List Int → Int → Int → List Int → Option (Bool)
  | 0, _, _, _, _, _, _, _, _ => none
  | k + 1, x8, x12, x13, x14, x15, x16, x414000, x414001 => if x16 < (x8.length : Int) then (if 0 ≤ x16 then ((laws_lwMany.f k x414001 (rd x8 x16)).bind fun t445 => ((laws_lwMany.f k x8 (rd x8 x16)).bind fun t447 => (if t445 = t447 then (laws_FnChance.l0 k x8 x12 x13 x14 x15 (wrap64 (x16 + 1)) x414000 x414001) else (some false)))) else (none)) else (laws_FnChance.j5 k x12 x13 x14 x15)
end
def laws_FnChance.f (k : Nat) (l0 : List Int) (l1 : List Int) : Option (Bool) := if (l0.length : Int) > 1048576 then (laws_FnChance.j0 k l0 l1 true) else (laws_FnChance.j0 k l0 l1 (decide ((l1.length : Int) > 1048576)))
def laws_FnChance.T10 : Bool × List (List Nat × List Nat) := (true, [([], []), ([], []), ([], []), ([1, 2], [1, 2]), ([0, 3], [0, 3]), ([4, 3], [4]), ([5], [5]), ([6, 5], [5, 6]), ([5], [5]), ([8, 5], [5, 8]), ([7, 9, 5], [5, 7, 9]), ([5, 10], [5, 10]), ([11, 5], [11]), ([12], [12]), ([13, 12], [12, 13]), ([12], [12]), ([15, 12], [12, 15]), ([14, 16, 12, 12], [12, 14, 16]), ([17, 12], [12, 17]), ([12, 18], [12, 18]), ([19, 17], [19]), ([20], [20]), ([20], [20]), ([20], [20]), ([22, 23, 20, 20], [20, 22, 23]), ([21, 24, 24, 20], [20, 21, 24]), ([25, 20], [20, 25]), ([20, 26], [20, 26]), ([27, 25], [27]), ([28], [28]), ([28], [28]), ([28], [28]), ([30, 31, 28, 28], [28, 30, 31]), ([29, 32, 32, 28], [28, 29, 32]), ([33, 28], [28, 33]), ([28, 34], [28, 34]), ([35, 33], [35]), ([36], [36]), ([36], [36]), ([37, 38, 36, 36], [36, 37, 38]), ([36], [36]), ([36], [36]), ([40, 41, 39, 36], [36, 40, 41]), ([39, 42, 36], [36, 39, 42]), ([36, 43], [36, 43]), ([44, 42], [44]), ([45], [45]), ([46, 45, 45], [45, 46]), ([45], [45]), ([48, 47, 45], [45, 48]), ([47, 49, 45], [45, 47, 49]), ([45, 50], [45, 50])])
def laws_FnChance.B10 : List Nat := [0, 0, 0, 6, 15, 31, 63, 127, 63, 319, 1023, 2047, 4095, 8191, 16383, 8191, 40959, 131071, 262143, 524287, 1048575, 2097151, 2097151, 2097151, 14680063, 33554431, 67108863, 134217727, 268435455, 536870911, 536870911, 536870911, 3758096383, 8589934591, 17179869183, 34359738367, 68719476735, 137438953471, 137438953471, 549755813887, 137438953471, 137438953471, 4398046511103, 8796093022207, 17592186044415, 35184372088831, 70368744177663, 140737488355327, 70368744177663, 562949953421311, 1125899906842623, 2251799813685247]
theorem laws_FnChance.tab10 : rtab .any (opsOf Try.f6 10) = laws_FnChance.T10 := by kernel_rfl
theorem laws_FnChance.bits10 : waitsOk laws_FnChance.T10.2 laws_FnChance.B10 = true := by kernel_rfl
def laws_FnChance.T18 : Bool × List (List Nat × List Nat) := (true, [([], []), ([0], [0]), ([], []), ([], []), ([2, 3], [2, 3]), ([4], [4]), ([1, 5], [1, 5]), ([], []), ([], []), ([], []), ([8, 9], [8, 9]), ([10], [10]), ([7, 11, 6], [7, 11]), ([6, 12], [6, 12])])
def laws_FnChance.B18 : List Nat := [0, 1, 0, 0, 12, 28, 63, 0, 0, 0, 768, 1792, 4095, 8191]
theorem laws_FnChance.tab18 : rtab .any (opsOf Try.f6 18) = laws_FnChance.T18 := by kernel_rfl
theorem laws_FnChance.bits18 : waitsOk laws_FnChance.T18.2 laws_FnChance.B18 = true := by kernel_rfl
theorem laws_FnChance.j1_no : ∀ (k_ : Nat) (y0 : Int) (y1 : Int) (y2 : List Int) (y3 : Int) (y4 : List Int) (y5 : Int) (y6 : List Int) (y7 : List Int) (y9 : Int) (y10 : Int) (y11 : Int) (y12 : List Int), laws_FnChance.j1 k_ y0 y1 y2 y3 y4 y5 y6 y7 true y9 y10 y11 y12 ≠ some true := by
  intro k_ y0 y1 y2 y3 y4 y5 y6 y7 y9 y10 y11 y12
  cases k_ <;> simp [laws_FnChance.j1]
theorem laws_FnChance.j2_no : ∀ (k_ : Nat) (y0 : List Int) (y1 : Int) (y2 : List Int) (y3 : Int) (y4 : List Int) (y5 : List Int) (y7 : Int) (y8 : List Int), laws_FnChance.j2 k_ y0 y1 y2 y3 y4 y5 true y7 y8 ≠ some true := by
  intro k_ y0 y1 y2 y3 y4 y5 y7 y8
  cases k_ <;> simp [laws_FnChance.j2]
set_option maxHeartbeats 8000000 in
set_option maxRecDepth 100000 in
theorem laws_FnChance.calls (k : Nat) (A0 : Option Addr) (c0 : Nat) (l0 : List Int) (A1 : Option Addr) (c1 : Nat) (l1 : List Int) (r : Bool) (w : World) (hr0 : Kd.C (Kd.int .u8) w A0 l0.length l0) (hc0 : l0.length ≤ c0) (hr1 : Kd.C (Kd.int .u8) w A1 l1.length l1) (hc1 : l1.length ≤ c1) (h : laws_FnChance.f k l0 l1 = some r) (ht_ : r = true) :
    Calls Try.prog 6 #[.slice A0 l0.length c0, .slice A1 l1.length c1] w fun e w' => e = .returned (.bool r) ∧ Below w.heap.size w w' := by
  have HT_ := Aside0.mk ht_
  clear ht_
  have hu60 := Try.underlying60
  have hu51 := Try.underlying51
  have HR0 := Aside0.mk hr0
  have HC0 := Aside0.mk hc0
  clear hr0 hc0
  have HR1 := Aside0.mk hr1
  have HC1 := Aside0.mk hc1
  clear hr1 hc1
  have HB := Aside0.mk (Below.refl w.heap.size w)
  have H : (if (l0.length : Int) > 1048576 then (laws_FnChance.j0 k l0 l1 true) else (laws_FnChance.j0 k l0 l1 (decide ((l1.length : Int) > 1048576)))) = some r := h
  clear h
  have HC3 := Aside0.mk H
  clear H
  go_enter Try.func6, Try.ntmps6
  go_upto_region 1 with (fail)
  go_cut [24] (fun v24 wc => ∃ (kq : Nat) (x24_2 : Bool), v24 = .bool x24_2 ∧ Aside0 (laws_FnChance.j0 kq l0 l1 x24_2 = some r) ∧ Aside0 (kq ≤ k) ∧ Aside0 (Below w.heap.size w wc))
  case first =>
    as_aux_lemma =>
    have H := HC3.out
    clear HC3
    by_cases c4 : (l0.length : Int) > 1048576
    · rw [if_pos c4] at H
      have c4b0 : decide (1048576 < (l0.length : Int)) = true := decide_eq_true c4
      have c4b1 : decide (1048576 < l0.length) = true := decide_eq_true (by omega)
      clear c4
      (first | rw [c4b0] | (simp only [i64_w, i32_w]; rw [c4b0]) | skip)
      have H' := Aside0.mk H
      clear H
      go_wp2
      go_meet
      case rel => exact ⟨_, (true), (by first | rfl | (simp; done) | (simp [*]; done)), H', ⟨by first | omega | exact Nat.le_refl _⟩, ⟨by repeat (first | (with_reducible first | exact HB.out | apply below_alloc | apply pw_below_drewN | apply below_drew1) | exact HB.out)⟩⟩
    · rw [if_neg c4] at H
      have c4b0 : decide (1048576 < (l0.length : Int)) = false := decide_eq_false c4
      have c4b1 : decide (1048576 < l0.length) = false := decide_eq_false (by omega)
      clear c4
      (first | rw [c4b0] | (simp only [i64_w, i32_w]; rw [c4b0]) | skip)
      have H' := Aside0.mk H
      clear H
      go_wp2
      go_meet
      case rel => exact ⟨_, (decide ((l1.length : Int) > 1048576)), (by first | rfl | (simp; done) | (simp [*]; done)), H', ⟨by first | omega | exact Nat.le_refl _⟩, ⟨by repeat (first | (with_reducible first | exact HB.out | apply below_alloc | apply pw_below_drewN | apply below_drew1) | exact HB.out)⟩⟩
  case rest =>
    as_aux_lemma =>
    clear HC3
    try clear c1
    try clear p2
    try clear c4
    try clear c4b0
    try clear c4b1
    obtain ⟨kq, x24_2, rfl, HA, HJ2, HB⟩ := hcut
    cases kq with
    | zero => exact absurd HA.out (by simp [laws_FnChance.j0])
    | succ kj2 =>
      have H := HA.out
      clear HA
      simp only [laws_FnChance.j0] at H
      by_cases c5 : x24_2 = true
      · subst c5
        have H1 : (some true) = some r := by rw [if_pos rfl] at H; exact H
        clear H
        have H := H1
        clear H1
        obtain rfl := Option.some.inj H
        go_wp2
        go_ret
        exact ⟨by first | rfl | (simp [errW_none, errW_some] <;> rfl) | (simp [*, errW_none, errW_some] <;> rfl), by repeat (first | (with_reducible first | exact HB.out | apply below_alloc | apply pw_below_drewN | apply below_drew1) | exact HB.out)⟩
      · replace c5 := Bool.eq_false_iff.mpr c5
        subst c5
        have H1 : ((spec_DrawChance.f kj2 l0).bind fun bt400 => ((impl_Chance.f bt400.1 bt400.2).bind fun bt402 => ((spec_DrawShuffle.f kj2 l1).bind fun bt405 => ((impl_Shuffle.f bt405.1 bt405.2).bind fun bt409 => ((spec_Shuffle.f kj2 bt405.1 bt405.2).bind fun bt414 => ((spec_DrawSetPut.f kj2 l0).bind fun bt419 => ((impl_SetPut.f kj2 bt419.1 bt419.2).bind fun t423 => ((impl_SetDrop.f kj2 bt419.1 bt419.2).bind fun t426 => ((spec_Chance.f bt400.1 bt400.2).bind fun bt429 => (if (!(bt402.1 == bt429.1) || (!(bt402.2 == bt429.2))) = true then (laws_FnChance.j1 kj2 bt400.1 bt400.2 bt405.1 bt405.2 bt419.1 bt419.2 t423 t426 true bt402.1 bt402.2 bt409.1 bt409.2) else (if bt409.1 = bt414.1 then ((laws_lwNums.f kj2 bt409.2 bt414.2).bind fun t431 => (if t431 = true then ((spec_SetPut.f kj2 bt419.1 bt419.2).bind fun t432 => ((laws_lwNums.f kj2 t423 t432).bind fun t435 => (if t435 = true then ((spec_SetDrop.f kj2 bt419.1 bt419.2).bind fun t436 => ((laws_lwNums.f kj2 t426 t436).bind fun t439 => (if t439 = true then ((impl_SetHas.f kj2 bt419.1 bt419.2).bind fun t440 => ((spec_SetHas.f kj2 bt419.1 bt419.2).bind fun t441 => (if (t440 != t441) = true then (laws_FnChance.j1 kj2 bt400.1 bt400.2 bt405.1 bt405.2 bt419.1 bt419.2 t423 t426 true bt402.1 bt402.2 bt409.1 bt409.2) else ((impl_SetRight.f kj2 bt419.1).bind fun t442 => ((spec_SetRight.f kj2 bt419.1).bind fun t443 => (laws_FnChance.j1 kj2 bt400.1 bt400.2 bt405.1 bt405.2 bt419.1 bt419.2 t423 t426 (t442 != t443) bt402.1 bt402.2 bt409.1 bt409.2)))))) else (laws_FnChance.j1 kj2 bt400.1 bt400.2 bt405.1 bt405.2 bt419.1 bt419.2 t423 t426 true bt402.1 bt402.2 bt409.1 bt409.2)))) else (laws_FnChance.j1 kj2 bt400.1 bt400.2 bt405.1 bt405.2 bt419.1 bt419.2 t423 t426 true bt402.1 bt402.2 bt409.1 bt409.2)))) else (laws_FnChance.j1 kj2 bt400.1 bt400.2 bt405.1 bt405.2 bt419.1 bt419.2 t423 t426 true bt402.1 bt402.2 bt409.1 bt409.2))) else (laws_FnChance.j1 kj2 bt400.1 bt400.2 bt405.1 bt405.2 bt419.1 bt419.2 t423 t426 true bt402.1 bt402.2 bt409.1 bt409.2)))))))))))) = some r := by rw [if_neg (show ¬ (false = true) by decide)] at H; exact H
        clear H
        have H := H1
        clear H1
        replace H := Option.bind_eq_some_iff.mp H
        obtain ⟨⟨t400, t401⟩, A60, H⟩ := H
        replace H : ((impl_Chance.f t400 t401).bind fun bt402 => ((spec_DrawShuffle.f kj2 l1).bind fun bt405 => ((impl_Shuffle.f bt405.1 bt405.2).bind fun bt409 => ((spec_Shuffle.f kj2 bt405.1 bt405.2).bind fun bt414 => ((spec_DrawSetPut.f kj2 l0).bind fun bt419 => ((impl_SetPut.f kj2 bt419.1 bt419.2).bind fun t423 => ((impl_SetDrop.f kj2 bt419.1 bt419.2).bind fun t426 => ((spec_Chance.f t400 t401).bind fun bt429 => (if (!(bt402.1 == bt429.1) || (!(bt402.2 == bt429.2))) = true then (laws_FnChance.j1 kj2 t400 t401 bt405.1 bt405.2 bt419.1 bt419.2 t423 t426 true bt402.1 bt402.2 bt409.1 bt409.2) else (if bt409.1 = bt414.1 then ((laws_lwNums.f kj2 bt409.2 bt414.2).bind fun t431 => (if t431 = true then ((spec_SetPut.f kj2 bt419.1 bt419.2).bind fun t432 => ((laws_lwNums.f kj2 t423 t432).bind fun t435 => (if t435 = true then ((spec_SetDrop.f kj2 bt419.1 bt419.2).bind fun t436 => ((laws_lwNums.f kj2 t426 t436).bind fun t439 => (if t439 = true then ((impl_SetHas.f kj2 bt419.1 bt419.2).bind fun t440 => ((spec_SetHas.f kj2 bt419.1 bt419.2).bind fun t441 => (if (t440 != t441) = true then (laws_FnChance.j1 kj2 t400 t401 bt405.1 bt405.2 bt419.1 bt419.2 t423 t426 true bt402.1 bt402.2 bt409.1 bt409.2) else ((impl_SetRight.f kj2 bt419.1).bind fun t442 => ((spec_SetRight.f kj2 bt419.1).bind fun t443 => (laws_FnChance.j1 kj2 t400 t401 bt405.1 bt405.2 bt419.1 bt419.2 t423 t426 (t442 != t443) bt402.1 bt402.2 bt409.1 bt409.2)))))) else (laws_FnChance.j1 kj2 t400 t401 bt405.1 bt405.2 bt419.1 bt419.2 t423 t426 true bt402.1 bt402.2 bt409.1 bt409.2)))) else (laws_FnChance.j1 kj2 t400 t401 bt405.1 bt405.2 bt419.1 bt419.2 t423 t426 true bt402.1 bt402.2 bt409.1 bt409.2)))) else (laws_FnChance.j1 kj2 t400 t401 bt405.1 bt405.2 bt419.1 bt419.2 t423 t426 true bt402.1 bt402.2 bt409.1 bt409.2))) else (laws_FnChance.j1 kj2 t400 t401 bt405.1 bt405.2 bt419.1 bt419.2 t423 t426 true bt402.1 bt402.2 bt409.1 bt409.2))))))))))) = some r := H
        have A6 := Aside0.mk A60
        clear A60
        replace H := Option.bind_eq_some_iff.mp H
        obtain ⟨⟨t402, t403⟩, A70, H⟩ := H
        replace H : ((spec_DrawShuffle.f kj2 l1).bind fun bt405 => ((impl_Shuffle.f bt405.1 bt405.2).bind fun bt409 => ((spec_Shuffle.f kj2 bt405.1 bt405.2).bind fun bt414 => ((spec_DrawSetPut.f kj2 l0).bind fun bt419 => ((impl_SetPut.f kj2 bt419.1 bt419.2).bind fun t423 => ((impl_SetDrop.f kj2 bt419.1 bt419.2).bind fun t426 => ((spec_Chance.f t400 t401).bind fun bt429 => (if (!(t402 == bt429.1) || (!(t403 == bt429.2))) = true then (laws_FnChance.j1 kj2 t400 t401 bt405.1 bt405.2 bt419.1 bt419.2 t423 t426 true t402 t403 bt409.1 bt409.2) else (if bt409.1 = bt414.1 then ((laws_lwNums.f kj2 bt409.2 bt414.2).bind fun t431 => (if t431 = true then ((spec_SetPut.f kj2 bt419.1 bt419.2).bind fun t432 => ((laws_lwNums.f kj2 t423 t432).bind fun t435 => (if t435 = true then ((spec_SetDrop.f kj2 bt419.1 bt419.2).bind fun t436 => ((laws_lwNums.f kj2 t426 t436).bind fun t439 => (if t439 = true then ((impl_SetHas.f kj2 bt419.1 bt419.2).bind fun t440 => ((spec_SetHas.f kj2 bt419.1 bt419.2).bind fun t441 => (if (t440 != t441) = true then (laws_FnChance.j1 kj2 t400 t401 bt405.1 bt405.2 bt419.1 bt419.2 t423 t426 true t402 t403 bt409.1 bt409.2) else ((impl_SetRight.f kj2 bt419.1).bind fun t442 => ((spec_SetRight.f kj2 bt419.1).bind fun t443 => (laws_FnChance.j1 kj2 t400 t401 bt405.1 bt405.2 bt419.1 bt419.2 t423 t426 (t442 != t443) t402 t403 bt409.1 bt409.2)))))) else (laws_FnChance.j1 kj2 t400 t401 bt405.1 bt405.2 bt419.1 bt419.2 t423 t426 true t402 t403 bt409.1 bt409.2)))) else (laws_FnChance.j1 kj2 t400 t401 bt405.1 bt405.2 bt419.1 bt419.2 t423 t426 true t402 t403 bt409.1 bt409.2)))) else (laws_FnChance.j1 kj2 t400 t401 bt405.1 bt405.2 bt419.1 bt419.2 t423 t426 true t402 t403 bt409.1 bt409.2))) else (laws_FnChance.j1 kj2 t400 t401 bt405.1 bt405.2 bt419.1 bt419.2 t423 t426 true t402 t403 bt409.1 bt409.2)))))))))) = some r := H
        have A7 := Aside0.mk A70
        clear A70
        replace H := Option.bind_eq_some_iff.mp H
        obtain ⟨⟨t405, t406⟩, A80, H⟩ := H
        replace H : ((impl_Shuffle.f t405 t406).bind fun bt409 => ((spec_Shuffle.f kj2 t405 t406).bind fun bt414 => ((spec_DrawSetPut.f kj2 l0).bind fun bt419 => ((impl_SetPut.f kj2 bt419.1 bt419.2).bind fun t423 => ((impl_SetDrop.f kj2 bt419.1 bt419.2).bind fun t426 => ((spec_Chance.f t400 t401).bind fun bt429 => (if (!(t402 == bt429.1) || (!(t403 == bt429.2))) = true then (laws_FnChance.j1 kj2 t400 t401 t405 t406 bt419.1 bt419.2 t423 t426 true t402 t403 bt409.1 bt409.2) else (if bt409.1 = bt414.1 then ((laws_lwNums.f kj2 bt409.2 bt414.2).bind fun t431 => (if t431 = true then ((spec_SetPut.f kj2 bt419.1 bt419.2).bind fun t432 => ((laws_lwNums.f kj2 t423 t432).bind fun t435 => (if t435 = true then ((spec_SetDrop.f kj2 bt419.1 bt419.2).bind fun t436 => ((laws_lwNums.f kj2 t426 t436).bind fun t439 => (if t439 = true then ((impl_SetHas.f kj2 bt419.1 bt419.2).bind fun t440 => ((spec_SetHas.f kj2 bt419.1 bt419.2).bind fun t441 => (if (t440 != t441) = true then (laws_FnChance.j1 kj2 t400 t401 t405 t406 bt419.1 bt419.2 t423 t426 true t402 t403 bt409.1 bt409.2) else ((impl_SetRight.f kj2 bt419.1).bind fun t442 => ((spec_SetRight.f kj2 bt419.1).bind fun t443 => (laws_FnChance.j1 kj2 t400 t401 t405 t406 bt419.1 bt419.2 t423 t426 (t442 != t443) t402 t403 bt409.1 bt409.2)))))) else (laws_FnChance.j1 kj2 t400 t401 t405 t406 bt419.1 bt419.2 t423 t426 true t402 t403 bt409.1 bt409.2)))) else (laws_FnChance.j1 kj2 t400 t401 t405 t406 bt419.1 bt419.2 t423 t426 true t402 t403 bt409.1 bt409.2)))) else (laws_FnChance.j1 kj2 t400 t401 t405 t406 bt419.1 bt419.2 t423 t426 true t402 t403 bt409.1 bt409.2))) else (laws_FnChance.j1 kj2 t400 t401 t405 t406 bt419.1 bt419.2 t423 t426 true t402 t403 bt409.1 bt409.2))))))))) = some r := H
        have A8 := Aside0.mk A80
        clear A80
        replace H := Option.bind_eq_some_iff.mp H
        obtain ⟨⟨t409, t410⟩, A90, H⟩ := H
        replace H : ((spec_Shuffle.f kj2 t405 t406).bind fun bt414 => ((spec_DrawSetPut.f kj2 l0).bind fun bt419 => ((impl_SetPut.f kj2 bt419.1 bt419.2).bind fun t423 => ((impl_SetDrop.f kj2 bt419.1 bt419.2).bind fun t426 => ((spec_Chance.f t400 t401).bind fun bt429 => (if (!(t402 == bt429.1) || (!(t403 == bt429.2))) = true then (laws_FnChance.j1 kj2 t400 t401 t405 t406 bt419.1 bt419.2 t423 t426 true t402 t403 t409 t410) else (if t409 = bt414.1 then ((laws_lwNums.f kj2 t410 bt414.2).bind fun t431 => (if t431 = true then ((spec_SetPut.f kj2 bt419.1 bt419.2).bind fun t432 => ((laws_lwNums.f kj2 t423 t432).bind fun t435 => (if t435 = true then ((spec_SetDrop.f kj2 bt419.1 bt419.2).bind fun t436 => ((laws_lwNums.f kj2 t426 t436).bind fun t439 => (if t439 = true then ((impl_SetHas.f kj2 bt419.1 bt419.2).bind fun t440 => ((spec_SetHas.f kj2 bt419.1 bt419.2).bind fun t441 => (if (t440 != t441) = true then (laws_FnChance.j1 kj2 t400 t401 t405 t406 bt419.1 bt419.2 t423 t426 true t402 t403 t409 t410) else ((impl_SetRight.f kj2 bt419.1).bind fun t442 => ((spec_SetRight.f kj2 bt419.1).bind fun t443 => (laws_FnChance.j1 kj2 t400 t401 t405 t406 bt419.1 bt419.2 t423 t426 (t442 != t443) t402 t403 t409 t410)))))) else (laws_FnChance.j1 kj2 t400 t401 t405 t406 bt419.1 bt419.2 t423 t426 true t402 t403 t409 t410)))) else (laws_FnChance.j1 kj2 t400 t401 t405 t406 bt419.1 bt419.2 t423 t426 true t402 t403 t409 t410)))) else (laws_FnChance.j1 kj2 t400 t401 t405 t406 bt419.1 bt419.2 t423 t426 true t402 t403 t409 t410))) else (laws_FnChance.j1 kj2 t400 t401 t405 t406 bt419.1 bt419.2 t423 t426 true t402 t403 t409 t410)))))))) = some r := H
        have A9 := Aside0.mk A90
        clear A90
        replace H := Option.bind_eq_some_iff.mp H
        obtain ⟨⟨t414, t415⟩, A100, H⟩ := H
        replace H : ((spec_DrawSetPut.f kj2 l0).bind fun bt419 => ((impl_SetPut.f kj2 bt419.1 bt419.2).bind fun t423 => ((impl_SetDrop.f kj2 bt419.1 bt419.2).bind fun t426 => ((spec_Chance.f t400 t401).bind fun bt429 => (if (!(t402 == bt429.1) || (!(t403 == bt429.2))) = true then (laws_FnChance.j1 kj2 t400 t401 t405 t406 bt419.1 bt419.2 t423 t426 true t402 t403 t409 t410) else (if t409 = t414 then ((laws_lwNums.f kj2 t410 t415).bind fun t431 => (if t431 = true then ((spec_SetPut.f kj2 bt419.1 bt419.2).bind fun t432 => ((laws_lwNums.f kj2 t423 t432).bind fun t435 => (if t435 = true then ((spec_SetDrop.f kj2 bt419.1 bt419.2).bind fun t436 => ((laws_lwNums.f kj2 t426 t436).bind fun t439 => (if t439 = true then ((impl_SetHas.f kj2 bt419.1 bt419.2).bind fun t440 => ((spec_SetHas.f kj2 bt419.1 bt419.2).bind fun t441 => (if (t440 != t441) = true then (laws_FnChance.j1 kj2 t400 t401 t405 t406 bt419.1 bt419.2 t423 t426 true t402 t403 t409 t410) else ((impl_SetRight.f kj2 bt419.1).bind fun t442 => ((spec_SetRight.f kj2 bt419.1).bind fun t443 => (laws_FnChance.j1 kj2 t400 t401 t405 t406 bt419.1 bt419.2 t423 t426 (t442 != t443) t402 t403 t409 t410)))))) else (laws_FnChance.j1 kj2 t400 t401 t405 t406 bt419.1 bt419.2 t423 t426 true t402 t403 t409 t410)))) else (laws_FnChance.j1 kj2 t400 t401 t405 t406 bt419.1 bt419.2 t423 t426 true t402 t403 t409 t410)))) else (laws_FnChance.j1 kj2 t400 t401 t405 t406 bt419.1 bt419.2 t423 t426 true t402 t403 t409 t410))) else (laws_FnChance.j1 kj2 t400 t401 t405 t406 bt419.1 bt419.2 t423 t426 true t402 t403 t409 t410))))))) = some r := H
        have A10 := Aside0.mk A100
        clear A100
        replace H := Option.bind_eq_some_iff.mp H
        obtain ⟨⟨t419, t420⟩, A110, H⟩ := H
        replace H : ((impl_SetPut.f kj2 t419 t420).bind fun t423 => ((impl_SetDrop.f kj2 t419 t420).bind fun t426 => ((spec_Chance.f t400 t401).bind fun bt429 => (if (!(t402 == bt429.1) || (!(t403 == bt429.2))) = true then (laws_FnChance.j1 kj2 t400 t401 t405 t406 t419 t420 t423 t426 true t402 t403 t409 t410) else (if t409 = t414 then ((laws_lwNums.f kj2 t410 t415).bind fun t431 => (if t431 = true then ((spec_SetPut.f kj2 t419 t420).bind fun t432 => ((laws_lwNums.f kj2 t423 t432).bind fun t435 => (if t435 = true then ((spec_SetDrop.f kj2 t419 t420).bind fun t436 => ((laws_lwNums.f kj2 t426 t436).bind fun t439 => (if t439 = true then ((impl_SetHas.f kj2 t419 t420).bind fun t440 => ((spec_SetHas.f kj2 t419 t420).bind fun t441 => (if (t440 != t441) = true then (laws_FnChance.j1 kj2 t400 t401 t405 t406 t419 t420 t423 t426 true t402 t403 t409 t410) else ((impl_SetRight.f kj2 t419).bind fun t442 => ((spec_SetRight.f kj2 t419).bind fun t443 => (laws_FnChance.j1 kj2 t400 t401 t405 t406 t419 t420 t423 t426 (t442 != t443) t402 t403 t409 t410)))))) else (laws_FnChance.j1 kj2 t400 t401 t405 t406 t419 t420 t423 t426 true t402 t403 t409 t410)))) else (laws_FnChance.j1 kj2 t400 t401 t405 t406 t419 t420 t423 t426 true t402 t403 t409 t410)))) else (laws_FnChance.j1 kj2 t400 t401 t405 t406 t419 t420 t423 t426 true t402 t403 t409 t410))) else (laws_FnChance.j1 kj2 t400 t401 t405 t406 t419 t420 t423 t426 true t402 t403 t409 t410)))))) = some r := H
        have A11 := Aside0.mk A110
        clear A110
        replace H := Option.bind_eq_some_iff.mp H
        obtain ⟨t423, A120, H⟩ := H
        replace H : ((impl_SetDrop.f kj2 t419 t420).bind fun t426 => ((spec_Chance.f t400 t401).bind fun bt429 => (if (!(t402 == bt429.1) || (!(t403 == bt429.2))) = true then (laws_FnChance.j1 kj2 t400 t401 t405 t406 t419 t420 t423 t426 true t402 t403 t409 t410) else (if t409 = t414 then ((laws_lwNums.f kj2 t410 t415).bind fun t431 => (if t431 = true then ((spec_SetPut.f kj2 t419 t420).bind fun t432 => ((laws_lwNums.f kj2 t423 t432).bind fun t435 => (if t435 = true then ((spec_SetDrop.f kj2 t419 t420).bind fun t436 => ((laws_lwNums.f kj2 t426 t436).bind fun t439 => (if t439 = true then ((impl_SetHas.f kj2 t419 t420).bind fun t440 => ((spec_SetHas.f kj2 t419 t420).bind fun t441 => (if (t440 != t441) = true then (laws_FnChance.j1 kj2 t400 t401 t405 t406 t419 t420 t423 t426 true t402 t403 t409 t410) else ((impl_SetRight.f kj2 t419).bind fun t442 => ((spec_SetRight.f kj2 t419).bind fun t443 => (laws_FnChance.j1 kj2 t400 t401 t405 t406 t419 t420 t423 t426 (t442 != t443) t402 t403 t409 t410)))))) else (laws_FnChance.j1 kj2 t400 t401 t405 t406 t419 t420 t423 t426 true t402 t403 t409 t410)))) else (laws_FnChance.j1 kj2 t400 t401 t405 t406 t419 t420 t423 t426 true t402 t403 t409 t410)))) else (laws_FnChance.j1 kj2 t400 t401 t405 t406 t419 t420 t423 t426 true t402 t403 t409 t410))) else (laws_FnChance.j1 kj2 t400 t401 t405 t406 t419 t420 t423 t426 true t402 t403 t409 t410))))) = some r := H
        have A12 := Aside0.mk A120
        clear A120
        replace H := Option.bind_eq_some_iff.mp H
        obtain ⟨t426, A130, H⟩ := H
        replace H : ((spec_Chance.f t400 t401).bind fun bt429 => (if (!(t402 == bt429.1) || (!(t403 == bt429.2))) = true then (laws_FnChance.j1 kj2 t400 t401 t405 t406 t419 t420 t423 t426 true t402 t403 t409 t410) else (if t409 = t414 then ((laws_lwNums.f kj2 t410 t415).bind fun t431 => (if t431 = true then ((spec_SetPut.f kj2 t419 t420).bind fun t432 => ((laws_lwNums.f kj2 t423 t432).bind fun t435 => (if t435 = true then ((spec_SetDrop.f kj2 t419 t420).bind fun t436 => ((laws_lwNums.f kj2 t426 t436).bind fun t439 => (if t439 = true then ((impl_SetHas.f kj2 t419 t420).bind fun t440 => ((spec_SetHas.f kj2 t419 t420).bind fun t441 => (if (t440 != t441) = true then (laws_FnChance.j1 kj2 t400 t401 t405 t406 t419 t420 t423 t426 true t402 t403 t409 t410) else ((impl_SetRight.f kj2 t419).bind fun t442 => ((spec_SetRight.f kj2 t419).bind fun t443 => (laws_FnChance.j1 kj2 t400 t401 t405 t406 t419 t420 t423 t426 (t442 != t443) t402 t403 t409 t410)))))) else (laws_FnChance.j1 kj2 t400 t401 t405 t406 t419 t420 t423 t426 true t402 t403 t409 t410)))) else (laws_FnChance.j1 kj2 t400 t401 t405 t406 t419 t420 t423 t426 true t402 t403 t409 t410)))) else (laws_FnChance.j1 kj2 t400 t401 t405 t406 t419 t420 t423 t426 true t402 t403 t409 t410))) else (laws_FnChance.j1 kj2 t400 t401 t405 t406 t419 t420 t423 t426 true t402 t403 t409 t410)))) = some r := H
        have A13 := Aside0.mk A130
        clear A130
        have HC14 := Aside0.mk H
        clear H
        go_upto_region 10 with (first | ((with_reducible refine gate_callee (f := 35) rfl ?_); refine goesL_ (some 27) rfl rfl Try.func35 (by kernel_rfl) rfl #[.slice A0 l0.length c0] rfl (by (try simp only [List.map_toArray, List.map_cons, List.map_nil]); first | done | rfl | (simp only [List.length_drop, List.length_take]; rfl)) ?_; (with_reducible refine (spec_DrawChance.calls kj2 _ _ l0 t400 t401 _ ?side1 ?side2 A6.out).mono ?_); (case side1 => repeat (first | exact (Kd.C_below HR0.out HB.out) | (with_reducible refine Kd.C_alloc ?_ _) | (with_reducible refine Kd.C_drewN ?_ _) | (with_reducible refine Kd.C_drew ?_))); (case side2 => exact HC0.out); rintro e w15 ⟨rfl, hb⟩; refine ⟨_, rfl, ?_⟩; have n0_ := Aside0.mk (below_step (by repeat (first | (with_reducible first | exact HB.out | apply below_alloc | apply pw_below_drewN | apply below_drew1) | exact HB.out)) hb); clear HB; have HB := n0_; clear n0_; (try clear hb); (try clear hb2); (try clear hk); (try clear hi)) | ((with_reducible refine gate_callee (f := 36) rfl ?_); refine goesL_ (some 32) rfl rfl Try.func36 (by kernel_rfl) rfl #[.int .i64 t400, .int .i64 t401] rfl (by (try simp only [List.map_toArray, List.map_cons, List.map_nil]); first | done | rfl | (simp only [List.length_drop, List.length_take]; rfl)) ?_; (with_reducible refine (impl_Chance.calls t400 t401 t402 t403 _ A7.out).mono ?_); rintro e w16 ⟨rfl, hb⟩; refine ⟨_, rfl, ?_⟩; have n0_ := Aside0.mk (below_step (by repeat (first | (with_reducible first | exact HB.out | apply below_alloc | apply pw_below_drewN | apply below_drew1) | exact HB.out)) hb); clear HB; have HB := n0_; clear n0_; (try clear hb); (try clear hb2); (try clear hk); (try clear hi)) | ((with_reducible refine gate_dst (N := 7) rfl ?_); (try (refine gate_guard (by rfl) ?_; dsimp only)); refine box_event ?hg (N := 7) ?hd (cs := #[.int .i64 0, .int .i64 0]) (t := 60) ?hr ?_; (case hd => rfl); (case hg => rfl); (case hr => first | (go_simp; done) | (go_simp; rfl)); intro gb404 hg w17 hbox hb; have n0_ := Aside0.mk (below_step (by repeat (first | (with_reducible first | exact HB.out | apply below_alloc | apply pw_below_drewN | apply below_drew1) | exact HB.out)) hb); have n1_ := Aside0.mk (hbox); have n2_ := Aside0.mk ((by rw [hg]; exact (below_size (by repeat (first | (with_reducible first | exact HB.out | apply below_alloc | apply pw_below_drewN | apply below_drew1) | exact HB.out))) : w.heap.size ≤ gb404)); have n3_ := Aside0.mk ((by rw [hg]; exact (below_size (by repeat (first | (with_reducible first | exact HB.out | apply below_alloc | apply pw_below_drewN | apply below_drew1) | exact HB.out))) : w.heap.size ≤ gb404)); clear HB; have HB := n0_; have BK404 := n1_; have GW404 := n2_; have GE404 := n3_; clear n0_ n1_ n2_ n3_; clear hb hbox hg; have hcz18_0 : w17.cell? ⟨gb404, 0, none⟩ = some (.int .i64 0) := (blk_cell BK404.out 0).trans rfl; have hcz18_1 : w17.cell? ⟨gb404, 1, none⟩ = some (.int .i64 0) := (blk_cell BK404.out 1).trans rfl; have hfz18_0 := blk_frozen BK404.out 0; have hfz18_1 := blk_frozen BK404.out 1) | ((with_reducible refine gate_callee (f := 37) rfl ?_); refine goesL_ (some 35) rfl rfl Try.func37 (by kernel_rfl) rfl #[.slice A1 l1.length c1] rfl (by (try simp only [List.map_toArray, List.map_cons, List.map_nil]); first | done | rfl | (simp only [List.length_drop, List.length_take]; rfl)) ?_; (with_reducible refine (spec_DrawShuffle.calls kj2 _ _ l1 t405 t406 _ ?side1 ?side2 A8.out).mono ?_); (case side1 => exact Kd.C_below HR1.out (by repeat (first | (with_reducible first | exact HB.out | apply below_alloc | apply pw_below_drewN | apply below_drew1 | refine below_set ?_ GE404.out) | exact HB.out))); (case side2 => exact HC1.out); rintro e w19 ⟨v407, rfl, ho0, hb⟩; refine ⟨_, rfl, ?_⟩; have n0_ := Aside0.mk (Kd.R_lower ho0 (below_size (by repeat (first | (with_reducible first | exact HB.out | apply below_alloc | apply pw_below_drewN | apply below_drew1 | refine below_set ?_ GE404.out) | exact HB.out)))); have n1_ := Aside0.mk (blk_below (g := gb404) (o := .cells #[.int .i64 t402, .int .i64 t403] 60 (0, 0)) (by (with_reducible repeat (first | refine blk_drewN ?_ _ | refine blk_drew ?_ | refine blk_alloc ?_ _)); refine blk_put (cs := #[.int .i64 t402, .int .i64 0]) ?_ 1 _ rfl; (with_reducible repeat (first | refine blk_drewN ?_ _ | refine blk_drew ?_ | refine blk_alloc ?_ _)); refine blk_put (cs := #[.int .i64 0, .int .i64 0]) ?_ 0 _ rfl; (with_reducible repeat (first | refine blk_drewN ?_ _ | refine blk_drew ?_ | refine blk_alloc ?_ _)); exact BK404.out) hb); have n2_ := Aside0.mk (below_step (by repeat (first | (with_reducible first | exact HB.out | apply below_alloc | apply pw_below_drewN | apply below_drew1 | refine below_set ?_ GE404.out) | exact HB.out)) hb); clear BK404; clear HB; have HO408 := n0_; have BK404 := n1_; have HB := n2_; clear n0_ n1_ n2_; (try clear hb); (try clear hb2); (try clear hk); (try clear hi); (try clear ho0); obtain ⟨Ao20, co20, eo20⟩ := Kd.R_slice HO408.out; subst eo20) | ((with_reducible refine gate_callee (f := 38) rfl ?_); refine goesL_ (some 40) rfl rfl Try.func38 (by kernel_rfl) rfl #[.slice Ao20 t405.length co20, .int .i64 t406] rfl (by (try simp only [List.map_toArray, List.map_cons, List.map_nil]); first | done | rfl | (simp only [List.length_drop, List.length_take]; rfl)) ?_; (with_reducible refine (impl_Shuffle.calls _ _ t405 t406 t409 t410 _ ?side1 ?side2 A9.out).mono ?_); (case side1 => repeat (first | exact (Kd.R_reads' HO408.out).2.2 | (with_reducible refine Kd.C_alloc ?_ _) | (with_reducible refine Kd.C_drewN ?_ _) | (with_reducible refine Kd.C_drew ?_))); (case side2 => exact (Kd.R_reads' HO408.out).2.1); rintro e w21 ⟨v411, rfl, ho0, hb⟩; refine ⟨_, rfl, ?_⟩; have n0_ := Aside0.mk (Kd.R_elder' (by (with_reducible repeat (first | apply Kd.R_alloc | apply Kd.R_drewN | apply Kd.R_drew)); exact HO408.out) (Kd.R_base ho0) hb); have n1_ := Aside0.mk (Kd.R_lower (Kd.R_new' ho0 (Kd.R_lt (by (with_reducible repeat (first | apply Kd.R_alloc | apply Kd.R_drewN | apply Kd.R_drew)); exact HO408.out))) (below_size (by repeat (first | (with_reducible first | exact HB.out | apply below_alloc | apply pw_below_drewN | apply below_drew1 | refine below_set ?_ GE404.out) | exact HB.out)))); have n2_ := Aside0.mk (blk_below (g := gb404) (o := .cells #[.int .i64 t402, .int .i64 t403] 60 (0, 0)) (by (with_reducible repeat (first | refine blk_drewN ?_ _ | refine blk_drew ?_ | refine blk_alloc ?_ _)); exact BK404.out) hb); have n3_ := Aside0.mk (below_step (by repeat (first | (with_reducible first | exact HB.out | apply below_alloc | apply pw_below_drewN | apply below_drew1 | refine below_set ?_ GE404.out) | exact HB.out)) hb); clear HO408; clear BK404; clear HB; have HO408 := n0_; have HO412 := n1_; have BK404 := n2_; have HB := n3_; clear n0_ n1_ n2_ n3_; (try clear hb); (try clear hb2); (try clear hk); (try clear hi); (try clear ho0)) | ((with_reducible refine gate_dst (N := 10) rfl ?_); (try (refine gate_guard (by rfl) ?_; dsimp only)); refine box_event ?hg (N := 10) ?hd (cs := #[.int .i64 0, .slice none 0 0]) (t := 51) ?hr ?_; (case hd => rfl); (case hg => rfl); (case hr => first | (go_simp; done) | (go_simp; rfl)); intro gb413 hg w22 hbox hb; have n0_ := Aside0.mk (Kd.R_below (by (with_reducible repeat (first | apply Kd.R_alloc | apply Kd.R_drewN | apply Kd.R_drew)); exact HO408.out) hb); have n1_ := Aside0.mk (Kd.R_below (by (with_reducible repeat (first | apply Kd.R_alloc | apply Kd.R_drewN | apply Kd.R_drew)); exact HO412.out) hb); have n2_ := Aside0.mk (blk_below (g := gb404) (o := .cells #[.int .i64 t402, .int .i64 t403] 60 (0, 0)) (by (with_reducible repeat (first | refine blk_drewN ?_ _ | refine blk_drew ?_ | refine blk_alloc ?_ _)); exact BK404.out) hb); have n3_ := Aside0.mk (below_step (by repeat (first | (with_reducible first | exact HB.out | apply below_alloc | apply pw_below_drewN | apply below_drew1 | refine below_set ?_ GE404.out) | exact HB.out)) hb); have n4_ := Aside0.mk (hbox); have n5_ := Aside0.mk ((by rw [hg]; exact (below_size (by repeat (first | (with_reducible first | exact HB.out | apply below_alloc | apply pw_below_drewN | apply below_drew1 | refine below_set ?_ GE404.out) | exact HB.out))) : w.heap.size ≤ gb413)); have n6_ := Aside0.mk ((by rw [hg]; exact (below_size (by repeat (first | (with_reducible first | exact HB.out | apply below_alloc | apply pw_below_drewN | apply below_drew1 | refine below_set ?_ GE404.out) | exact HB.out))) : w.heap.size ≤ gb413)); have n7_ := Aside0.mk ((by rw [hg]; exact Nat.ne_of_lt (blk_lt (g := gb404) (o := .cells #[.int .i64 t402, .int .i64 t403] 60 (0, 0)) (by (with_reducible repeat (first | refine blk_drewN ?_ _ | refine blk_drew ?_ | refine blk_alloc ?_ _)); exact BK404.out)) : gb404 ≠ gb413)); have n8_ := Aside0.mk ((by rw [hg]; exact Nat.ne_of_gt (blk_lt (g := gb404) (o := .cells #[.int .i64 t402, .int .i64 t403] 60 (0, 0)) (by (with_reducible repeat (first | refine blk_drewN ?_ _ | refine blk_drew ?_ | refine blk_alloc ?_ _)); exact BK404.out)) : gb413 ≠ gb404)); clear HO408; clear HO412; clear BK404; clear HB; have HO408 := n0_; have HO412 := n1_; have BK404 := n2_; have HB := n3_; have BK413 := n4_; have GW413 := n5_; have GE413 := n6_; have NB404_413 := n7_; have NB413_404 := n8_; clear n0_ n1_ n2_ n3_ n4_ n5_ n6_ n7_ n8_; clear hb hbox hg; have hnb23 := NB413_404.out; have hnc23 := NB404_413.out; have hcz24_0 : w22.cell? ⟨gb413, 0, none⟩ = some (.int .i64 0) := (blk_cell BK413.out 0).trans rfl; have hcz24_1 : w22.cell? ⟨gb413, 1, none⟩ = some (.slice none 0 0) := (blk_cell BK413.out 1).trans rfl; have hfz24_0 := blk_frozen BK413.out 0; have hfz24_1 := blk_frozen BK413.out 1; obtain ⟨Ao25, co25, eo25⟩ := Kd.R_slice HO412.out; subst eo25) | ((with_reducible refine gate_callee (f := 39) rfl ?_); refine goesL_ (some 43) rfl rfl Try.func39 (by kernel_rfl) rfl #[.slice Ao20 t405.length co20, .int .i64 t406] rfl (by (try simp only [List.map_toArray, List.map_cons, List.map_nil]); first | done | rfl | (simp only [List.length_drop, List.length_take]; rfl)) ?_; (with_reducible refine (spec_Shuffle.calls kj2 _ _ t405 t406 t414 t415 _ ?side1 ?side2 A10.out).mono ?_); (case side1 => refine (Kd.R_reads' (e := 2) (base := w.heap.size) (ok := fun k_ => (True ∧ some k_ ≠ (.slice Ao25 t410.length co25 : Value).ownBlock)) (n := t405.length) (c := co20) ?_).2.2; exact (by (with_reducible repeat (first | apply Kd.R_alloc | apply Kd.R_drewN | apply Kd.R_drew)); exact (Kd.R_mono (Kd.R_far (p := ⟨gb413, 1, none⟩) (Kd.R_far (p := ⟨gb413, 0, none⟩) (Kd.R_types HO408.out BK413.out (by decide)) (fun _ hk => hk.2) (.int .i64 t409)) (fun _ hk => hk.2) (.slice Ao25 t410.length co25)) (fun _ h_ => h_.1)))); (case side2 => exact (Kd.R_reads' HO408.out).2.1); rintro e w26 ⟨v416, rfl, ho0, hb⟩; refine ⟨_, rfl, ?_⟩; have n0_ := Aside0.mk (Kd.R_elder' (by (with_reducible repeat (first | apply Kd.R_alloc | apply Kd.R_drewN | apply Kd.R_drew)); exact (Kd.R_mono (Kd.R_far (p := ⟨gb413, 1, none⟩) (Kd.R_far (p := ⟨gb413, 0, none⟩) (Kd.R_types HO408.out BK413.out (by decide)) (fun _ hk => hk.2) (.int .i64 t409)) (fun _ hk => hk.2) (.slice Ao25 t410.length co25)) (fun _ h_ => h_.1))) (Kd.R_base ho0) hb); have n1_ := Aside0.mk (Kd.R_elder' (by (with_reducible repeat (first | apply Kd.R_alloc | apply Kd.R_drewN | apply Kd.R_drew)); exact (Kd.R_mono (Kd.R_far (p := ⟨gb413, 1, none⟩) (Kd.R_far (p := ⟨gb413, 0, none⟩) (Kd.R_types HO412.out BK413.out (by decide)) (fun _ hk => hk.2) (.int .i64 t409)) (fun _ hk => hk.2) (.slice Ao25 t410.length co25)) (fun _ h_ => h_.1))) (Kd.R_base ho0) hb); have n2_ := Aside0.mk (Kd.R_lower (Kd.R_new' (Kd.R_new' ho0 (Kd.R_lt (by (with_reducible repeat (first | apply Kd.R_alloc | apply Kd.R_drewN | apply Kd.R_drew)); exact (Kd.R_mono (Kd.R_far (p := ⟨gb413, 1, none⟩) (Kd.R_far (p := ⟨gb413, 0, none⟩) (Kd.R_types HO408.out BK413.out (by decide)) (fun _ hk => hk.2) (.int .i64 t409)) (fun _ hk => hk.2) (.slice Ao25 t410.length co25)) (fun _ h_ => h_.1))))) (Kd.R_lt (by (with_reducible repeat (first | apply Kd.R_alloc | apply Kd.R_drewN | apply Kd.R_drew)); exact (Kd.R_mono (Kd.R_far (p := ⟨gb413, 1, none⟩) (Kd.R_far (p := ⟨gb413, 0, none⟩) (Kd.R_types HO412.out BK413.out (by decide)) (fun _ hk => hk.2) (.int .i64 t409)) (fun _ hk => hk.2) (.slice Ao25 t410.length co25)) (fun _ h_ => h_.1))))) (below_size (by repeat (first | (with_reducible first | exact HB.out | apply below_alloc | apply pw_below_drewN | apply below_drew1 | refine below_set ?_ GE404.out | refine below_set ?_ GE413.out) | exact HB.out)))); have n3_ := Aside0.mk (blk_below (g := gb404) (o := .cells #[.int .i64 t402, .int .i64 t403] 60 (0, 0)) (by (with_reducible repeat (first | refine blk_drewN ?_ _ | refine blk_drew ?_ | refine blk_alloc ?_ _)); refine blk_far ?_ NB404_413.out _; (with_reducible repeat (first | refine blk_drewN ?_ _ | refine blk_drew ?_ | refine blk_alloc ?_ _)); refine blk_far ?_ NB404_413.out _; (with_reducible repeat (first | refine blk_drewN ?_ _ | refine blk_drew ?_ | refine blk_alloc ?_ _)); exact BK404.out) hb); have n4_ := Aside0.mk (blk_below (g := gb413) (o := .cells #[.int .i64 t409, .slice Ao25 t410.length co25] 51 (0, 0)) (by (with_reducible repeat (first | refine blk_drewN ?_ _ | refine blk_drew ?_ | refine blk_alloc ?_ _)); refine blk_put (cs := #[.int .i64 t409, .slice none 0 0]) ?_ 1 _ rfl; (with_reducible repeat (first | refine blk_drewN ?_ _ | refine blk_drew ?_ | refine blk_alloc ?_ _)); refine blk_put (cs := #[.int .i64 0, .slice none 0 0]) ?_ 0 _ rfl; (with_reducible repeat (first | refine blk_drewN ?_ _ | refine blk_drew ?_ | refine blk_alloc ?_ _)); exact BK413.out) hb); have n5_ := Aside0.mk (below_step (by repeat (first | (with_reducible first | exact HB.out | apply below_alloc | apply pw_below_drewN | apply below_drew1 | refine below_set ?_ GE404.out | refine below_set ?_ GE413.out) | exact HB.out)) hb); clear HO408; clear HO412; clear BK404; clear BK413; clear HB; have HO408 := n0_; have HO412 := n1_; have HO417 := n2_; have BK404 := n3_; have BK413 := n4_; have HB := n5_; clear n0_ n1_ n2_ n3_ n4_ n5_; (try clear hb); (try clear hb2); (try clear hk); (try clear hi); (try clear ho0)) | ((with_reducible refine gate_dst (N := 11) rfl ?_); (try (refine gate_guard (by rfl) ?_; dsimp only)); refine box_event ?hg (N := 11) ?hd (cs := #[.int .i64 0, .slice none 0 0]) (t := 51) ?hr ?_; (case hd => rfl); (case hg => rfl); (case hr => first | (go_simp; done) | (go_simp; rfl)); intro gb418 hg w27 hbox hb; have n0_ := Aside0.mk (Kd.R_below (by (with_reducible repeat (first | apply Kd.R_alloc | apply Kd.R_drewN | apply Kd.R_drew)); exact HO408.out) hb); have n1_ := Aside0.mk (Kd.R_below (by (with_reducible repeat (first | apply Kd.R_alloc | apply Kd.R_drewN | apply Kd.R_drew)); exact HO412.out) hb); have n2_ := Aside0.mk (Kd.R_below (by (with_reducible repeat (first | apply Kd.R_alloc | apply Kd.R_drewN | apply Kd.R_drew)); exact HO417.out) hb); have n3_ := Aside0.mk (blk_below (g := gb404) (o := .cells #[.int .i64 t402, .int .i64 t403] 60 (0, 0)) (by (with_reducible repeat (first | refine blk_drewN ?_ _ | refine blk_drew ?_ | refine blk_alloc ?_ _)); exact BK404.out) hb); have n4_ := Aside0.mk (blk_below (g := gb413) (o := .cells #[.int .i64 t409, .slice Ao25 t410.length co25] 51 (0, 0)) (by (with_reducible repeat (first | refine blk_drewN ?_ _ | refine blk_drew ?_ | refine blk_alloc ?_ _)); exact BK413.out) hb); have n5_ := Aside0.mk (below_step (by repeat (first | (with_reducible first | exact HB.out | apply below_alloc | apply pw_below_drewN | apply below_drew1 | refine below_set ?_ GE404.out | refine below_set ?_ GE413.out) | exact HB.out)) hb); have n6_ := Aside0.mk (hbox); have n7_ := Aside0.mk ((by rw [hg]; exact (below_size (by repeat (first | (with_reducible first | exact HB.out | apply below_alloc | apply pw_below_drewN | apply below_drew1 | refine below_set ?_ GE404.out | refine below_set ?_ GE413.out) | exact HB.out))) : w.heap.size ≤ gb418)); have n8_ := Aside0.mk ((by rw [hg]; exact (below_size (by repeat (first | (with_reducible first | exact HB.out | apply below_alloc | apply pw_below_drewN | apply below_drew1 | refine below_set ?_ GE404.out | refine below_set ?_ GE413.out) | exact HB.out))) : w.heap.size ≤ gb418)); have n9_ := Aside0.mk ((by rw [hg]; exact Nat.ne_of_lt (blk_lt (g := gb404) (o := .cells #[.int .i64 t402, .int .i64 t403] 60 (0, 0)) (by (with_reducible repeat (first | refine blk_drewN ?_ _ | refine blk_drew ?_ | refine blk_alloc ?_ _)); exact BK404.out)) : gb404 ≠ gb418)); have n10_ := Aside0.mk ((by rw [hg]; exact Nat.ne_of_gt (blk_lt (g := gb404) (o := .cells #[.int .i64 t402, .int .i64 t403] 60 (0, 0)) (by (with_reducible repeat (first | refine blk_drewN ?_ _ | refine blk_drew ?_ | refine blk_alloc ?_ _)); exact BK404.out)) : gb418 ≠ gb404)); have n11_ := Aside0.mk ((by rw [hg]; exact Nat.ne_of_lt (blk_lt (g := gb413) (o := .cells #[.int .i64 t409, .slice Ao25 t410.length co25] 51 (0, 0)) (by (with_reducible repeat (first | refine blk_drewN ?_ _ | refine blk_drew ?_ | refine blk_alloc ?_ _)); exact BK413.out)) : gb413 ≠ gb418)); have n12_ := Aside0.mk ((by rw [hg]; exact Nat.ne_of_gt (blk_lt (g := gb413) (o := .cells #[.int .i64 t409, .slice Ao25 t410.length co25] 51 (0, 0)) (by (with_reducible repeat (first | refine blk_drewN ?_ _ | refine blk_drew ?_ | refine blk_alloc ?_ _)); exact BK413.out)) : gb418 ≠ gb413)); clear HO408; clear HO412; clear HO417; clear BK404; clear BK413; clear HB; have HO408 := n0_; have HO412 := n1_; have HO417 := n2_; have BK404 := n3_; have BK413 := n4_; have HB := n5_; have BK418 := n6_; have GW418 := n7_; have GE418 := n8_; have NB404_418 := n9_; have NB418_404 := n10_; have NB413_418 := n11_; have NB418_413 := n12_; clear n0_ n1_ n2_ n3_ n4_ n5_ n6_ n7_ n8_ n9_ n10_ n11_ n12_; clear hb hbox hg; have hnb28 := NB418_404.out; have hnc28 := NB404_418.out; have hnb29 := NB418_413.out; have hnc29 := NB413_418.out; have hcz30_0 : w27.cell? ⟨gb418, 0, none⟩ = some (.int .i64 0) := (blk_cell BK418.out 0).trans rfl; have hcz30_1 : w27.cell? ⟨gb418, 1, none⟩ = some (.slice none 0 0) := (blk_cell BK418.out 1).trans rfl; have hfz30_0 := blk_frozen BK418.out 0; have hfz30_1 := blk_frozen BK418.out 1; obtain ⟨Ao31, co31, eo31⟩ := Kd.R_slice HO417.out; subst eo31) | ((with_reducible refine gate_callee (f := 40) rfl ?_); refine goesL_ (some 46) rfl rfl Try.func40 (by kernel_rfl) rfl #[.slice A0 l0.length c0] rfl (by (try simp only [List.map_toArray, List.map_cons, List.map_nil]); first | done | rfl | (simp only [List.length_drop, List.length_take]; rfl)) ?_; (with_reducible refine (spec_DrawSetPut.calls kj2 _ _ l0 t419 t420 _ ?side1 ?side2 A11.out).mono ?_); (case side1 => exact Kd.C_below HR0.out (by repeat (first | (with_reducible first | exact HB.out | apply below_alloc | apply pw_below_drewN | apply below_drew1 | refine below_set ?_ GE404.out | refine below_set ?_ GE413.out | refine below_set ?_ GE418.out) | exact HB.out))); (case side2 => exact HC0.out); rintro e w32 ⟨v421, rfl, ho0, hb⟩; refine ⟨_, rfl, ?_⟩; have n0_ := Aside0.mk (Kd.R_elder' (by (with_reducible repeat (first | apply Kd.R_alloc | apply Kd.R_drewN | apply Kd.R_drew)); exact (Kd.R_mono (Kd.R_far (p := ⟨gb418, 1, none⟩) (Kd.R_far (p := ⟨gb418, 0, none⟩) (Kd.R_types HO408.out BK418.out (by decide)) (fun _ hk => hk.2) (.int .i64 t414)) (fun _ hk => hk.2) (.slice Ao31 t415.length co31)) (fun _ h_ => h_.1))) (Kd.R_base ho0) hb); have n1_ := Aside0.mk (Kd.R_elder' (by (with_reducible repeat (first | apply Kd.R_alloc | apply Kd.R_drewN | apply Kd.R_drew)); exact (Kd.R_mono (Kd.R_far (p := ⟨gb418, 1, none⟩) (Kd.R_far (p := ⟨gb418, 0, none⟩) (Kd.R_types HO412.out BK418.out (by decide)) (fun _ hk => hk.2) (.int .i64 t414)) (fun _ hk => hk.2) (.slice Ao31 t415.length co31)) (fun _ h_ => h_.1))) (Kd.R_base ho0) hb); have n2_ := Aside0.mk (Kd.R_elder' (by (with_reducible repeat (first | apply Kd.R_alloc | apply Kd.R_drewN | apply Kd.R_drew)); exact (Kd.R_mono (Kd.R_far (p := ⟨gb418, 1, none⟩) (Kd.R_far (p := ⟨gb418, 0, none⟩) (Kd.R_types HO417.out BK418.out (by decide)) (fun _ hk => hk.2) (.int .i64 t414)) (fun _ hk => hk.2) (.slice Ao31 t415.length co31)) (fun _ h_ => h_.1))) (Kd.R_base ho0) hb); have n3_ := Aside0.mk (Kd.R_lower (Kd.R_new' (Kd.R_new' (Kd.R_new' ho0 (Kd.R_lt (by (with_reducible repeat (first | apply Kd.R_alloc | apply Kd.R_drewN | apply Kd.R_drew)); exact (Kd.R_mono (Kd.R_far (p := ⟨gb418, 1, none⟩) (Kd.R_far (p := ⟨gb418, 0, none⟩) (Kd.R_types HO408.out BK418.out (by decide)) (fun _ hk => hk.2) (.int .i64 t414)) (fun _ hk => hk.2) (.slice Ao31 t415.length co31)) (fun _ h_ => h_.1))))) (Kd.R_lt (by (with_reducible repeat (first | apply Kd.R_alloc | apply Kd.R_drewN | apply Kd.R_drew)); exact (Kd.R_mono (Kd.R_far (p := ⟨gb418, 1, none⟩) (Kd.R_far (p := ⟨gb418, 0, none⟩) (Kd.R_types HO412.out BK418.out (by decide)) (fun _ hk => hk.2) (.int .i64 t414)) (fun _ hk => hk.2) (.slice Ao31 t415.length co31)) (fun _ h_ => h_.1))))) (Kd.R_lt (by (with_reducible repeat (first | apply Kd.R_alloc | apply Kd.R_drewN | apply Kd.R_drew)); exact (Kd.R_mono (Kd.R_far (p := ⟨gb418, 1, none⟩) (Kd.R_far (p := ⟨gb418, 0, none⟩) (Kd.R_types HO417.out BK418.out (by decide)) (fun _ hk => hk.2) (.int .i64 t414)) (fun _ hk => hk.2) (.slice Ao31 t415.length co31)) (fun _ h_ => h_.1))))) (below_size (by repeat (first | (with_reducible first | exact HB.out | apply below_alloc | apply pw_below_drewN | apply below_drew1 | refine below_set ?_ GE404.out | refine below_set ?_ GE413.out | refine below_set ?_ GE418.out) | exact HB.out)))); have n4_ := Aside0.mk (blk_below (g := gb404) (o := .cells #[.int .i64 t402, .int .i64 t403] 60 (0, 0)) (by (with_reducible repeat (first | refine blk_drewN ?_ _ | refine blk_drew ?_ | refine blk_alloc ?_ _)); refine blk_far ?_ NB404_418.out _; (with_reducible repeat (first | refine blk_drewN ?_ _ | refine blk_drew ?_ | refine blk_alloc ?_ _)); refine blk_far ?_ NB404_418.out _; (with_reducible repeat (first | refine blk_drewN ?_ _ | refine blk_drew ?_ | refine blk_alloc ?_ _)); exact BK404.out) hb); have n5_ := Aside0.mk (blk_below (g := gb413) (o := .cells #[.int .i64 t409, .slice Ao25 t410.length co25] 51 (0, 0)) (by (with_reducible repeat (first | refine blk_drewN ?_ _ | refine blk_drew ?_ | refine blk_alloc ?_ _)); refine blk_far ?_ NB413_418.out _; (with_reducible repeat (first | refine blk_drewN ?_ _ | refine blk_drew ?_ | refine blk_alloc ?_ _)); refine blk_far ?_ NB413_418.out _; (with_reducible repeat (first | refine blk_drewN ?_ _ | refine blk_drew ?_ | refine blk_alloc ?_ _)); exact BK413.out) hb); have n6_ := Aside0.mk (blk_below (g := gb418) (o := .cells #[.int .i64 t414, .slice Ao31 t415.length co31] 51 (0, 0)) (by (with_reducible repeat (first | refine blk_drewN ?_ _ | refine blk_drew ?_ | refine blk_alloc ?_ _)); refine blk_put (cs := #[.int .i64 t414, .slice none 0 0]) ?_ 1 _ rfl; (with_reducible repeat (first | refine blk_drewN ?_ _ | refine blk_drew ?_ | refine blk_alloc ?_ _)); refine blk_put (cs := #[.int .i64 0, .slice none 0 0]) ?_ 0 _ rfl; (with_reducible repeat (first | refine blk_drewN ?_ _ | refine blk_drew ?_ | refine blk_alloc ?_ _)); exact BK418.out) hb); have n7_ := Aside0.mk (below_step (by repeat (first | (with_reducible first | exact HB.out | apply below_alloc | apply pw_below_drewN | apply below_drew1 | refine below_set ?_ GE404.out | refine below_set ?_ GE413.out | refine below_set ?_ GE418.out) | exact HB.out)) hb); clear HO408; clear HO412; clear HO417; clear BK404; clear BK413; clear BK418; clear HB; have HO408 := n0_; have HO412 := n1_; have HO417 := n2_; have HO422 := n3_; have BK404 := n4_; have BK413 := n5_; have BK418 := n6_; have HB := n7_; clear n0_ n1_ n2_ n3_ n4_ n5_ n6_ n7_; (try clear hb); (try clear hb2); (try clear hk); (try clear hi); (try clear ho0); obtain ⟨Ao33, co33, eo33⟩ := Kd.R_slice HO422.out; subst eo33) | ((with_reducible refine gate_callee (f := 41) rfl ?_); refine goesL_ (some 51) rfl rfl Try.func41 (by kernel_rfl) rfl #[.slice Ao33 t419.length co33, .int .i64 t420] rfl (by (try simp only [List.map_toArray, List.map_cons, List.map_nil]); first | done | rfl | (simp only [List.length_drop, List.length_take]; rfl)) ?_; (with_reducible refine (impl_SetPut.calls kj2 _ _ t419 t420 t423 _ ?side1 ?side2 A12.out).mono ?_); (case side1 => repeat (first | exact (Kd.R_reads' HO422.out).2.2 | (with_reducible refine Kd.C_alloc ?_ _) | (with_reducible refine Kd.C_drewN ?_ _) | (with_reducible refine Kd.C_drew ?_))); (case side2 => exact (Kd.R_reads' HO422.out).2.1); rintro e w34 ⟨v424, rfl, ho0, hb⟩; refine ⟨_, rfl, ?_⟩; have n0_ := Aside0.mk (Kd.R_elder' (by (with_reducible repeat (first | apply Kd.R_alloc | apply Kd.R_drewN | apply Kd.R_drew)); exact HO408.out) (Kd.R_base ho0) hb); have n1_ := Aside0.mk (Kd.R_elder' (by (with_reducible repeat (first | apply Kd.R_alloc | apply Kd.R_drewN | apply Kd.R_drew)); exact HO412.out) (Kd.R_base ho0) hb); have n2_ := Aside0.mk (Kd.R_elder' (by (with_reducible repeat (first | apply Kd.R_alloc | apply Kd.R_drewN | apply Kd.R_drew)); exact HO417.out) (Kd.R_base ho0) hb); have n3_ := Aside0.mk (Kd.R_elder' (by (with_reducible repeat (first | apply Kd.R_alloc | apply Kd.R_drewN | apply Kd.R_drew)); exact HO422.out) (Kd.R_base ho0) hb); have n4_ := Aside0.mk (Kd.R_lower (Kd.R_new' (Kd.R_new' (Kd.R_new' (Kd.R_new' ho0 (Kd.R_lt (by (with_reducible repeat (first | apply Kd.R_alloc | apply Kd.R_drewN | apply Kd.R_drew)); exact HO408.out))) (Kd.R_lt (by (with_reducible repeat (first | apply Kd.R_alloc | apply Kd.R_drewN | apply Kd.R_drew)); exact HO412.out))) (Kd.R_lt (by (with_reducible repeat (first | apply Kd.R_alloc | apply Kd.R_drewN | apply Kd.R_drew)); exact HO417.out))) (Kd.R_lt (by (with_reducible repeat (first | apply Kd.R_alloc | apply Kd.R_drewN | apply Kd.R_drew)); exact HO422.out))) (below_size (by repeat (first | (with_reducible first | exact HB.out | apply below_alloc | apply pw_below_drewN | apply below_drew1 | refine below_set ?_ GE404.out | refine below_set ?_ GE413.out | refine below_set ?_ GE418.out) | exact HB.out)))); have n5_ := Aside0.mk (blk_below (g := gb404) (o := .cells #[.int .i64 t402, .int .i64 t403] 60 (0, 0)) (by (with_reducible repeat (first | refine blk_drewN ?_ _ | refine blk_drew ?_ | refine blk_alloc ?_ _)); exact BK404.out) hb); have n6_ := Aside0.mk (blk_below (g := gb413) (o := .cells #[.int .i64 t409, .slice Ao25 t410.length co25] 51 (0, 0)) (by (with_reducible repeat (first | refine blk_drewN ?_ _ | refine blk_drew ?_ | refine blk_alloc ?_ _)); exact BK413.out) hb); have n7_ := Aside0.mk (blk_below (g := gb418) (o := .cells #[.int .i64 t414, .slice Ao31 t415.length co31] 51 (0, 0)) (by (with_reducible repeat (first | refine blk_drewN ?_ _ | refine blk_drew ?_ | refine blk_alloc ?_ _)); exact BK418.out) hb); have n8_ := Aside0.mk (below_step (by repeat (first | (with_reducible first | exact HB.out | apply below_alloc | apply pw_below_drewN | apply below_drew1 | refine below_set ?_ GE404.out | refine below_set ?_ GE413.out | refine below_set ?_ GE418.out) | exact HB.out)) hb); clear HO408; clear HO412; clear HO417; clear HO422; clear BK404; clear BK413; clear BK418; clear HB; have HO408 := n0_; have HO412 := n1_; have HO417 := n2_; have HO422 := n3_; have HO425 := n4_; have BK404 := n5_; have BK413 := n6_; have BK418 := n7_; have HB := n8_; clear n0_ n1_ n2_ n3_ n4_ n5_ n6_ n7_ n8_; (try clear hb); (try clear hb2); (try clear hk); (try clear hi); (try clear ho0)) | ((with_reducible refine gate_callee (f := 42) rfl ?_); refine goesL_ (some 54) rfl rfl Try.func42 (by kernel_rfl) rfl #[.slice Ao33 t419.length co33, .int .i64 t420] rfl (by (try simp only [List.map_toArray, List.map_cons, List.map_nil]); first | done | rfl | (simp only [List.length_drop, List.length_take]; rfl)) ?_; (with_reducible refine (impl_SetDrop.calls kj2 _ _ t419 t420 t426 _ ?side1 ?side2 A13.out).mono ?_); (case side1 => repeat (first | exact (Kd.R_reads' HO422.out).2.2 | (with_reducible refine Kd.C_alloc ?_ _) | (with_reducible refine Kd.C_drewN ?_ _) | (with_reducible refine Kd.C_drew ?_))); (case side2 => exact (Kd.R_reads' HO422.out).2.1); rintro e w35 ⟨v427, rfl, ho0, hb⟩; refine ⟨_, rfl, ?_⟩; have n0_ := Aside0.mk (Kd.R_elder' (by (with_reducible repeat (first | apply Kd.R_alloc | apply Kd.R_drewN | apply Kd.R_drew)); exact HO408.out) (Kd.R_base ho0) hb); have n1_ := Aside0.mk (Kd.R_elder' (by (with_reducible repeat (first | apply Kd.R_alloc | apply Kd.R_drewN | apply Kd.R_drew)); exact HO412.out) (Kd.R_base ho0) hb); have n2_ := Aside0.mk (Kd.R_elder' (by (with_reducible repeat (first | apply Kd.R_alloc | apply Kd.R_drewN | apply Kd.R_drew)); exact HO417.out) (Kd.R_base ho0) hb); have n3_ := Aside0.mk (Kd.R_elder' (by (with_reducible repeat (first | apply Kd.R_alloc | apply Kd.R_drewN | apply Kd.R_drew)); exact HO422.out) (Kd.R_base ho0) hb); have n4_ := Aside0.mk (Kd.R_elder' (by (with_reducible repeat (first | apply Kd.R_alloc | apply Kd.R_drewN | apply Kd.R_drew)); exact HO425.out) (Kd.R_base ho0) hb); have n5_ := Aside0.mk (Kd.R_lower (Kd.R_new' (Kd.R_new' (Kd.R_new' (Kd.R_new' (Kd.R_new' ho0 (Kd.R_lt (by (with_reducible repeat (first | apply Kd.R_alloc | apply Kd.R_drewN | apply Kd.R_drew)); exact HO408.out))) (Kd.R_lt (by (with_reducible repeat (first | apply Kd.R_alloc | apply Kd.R_drewN | apply Kd.R_drew)); exact HO412.out))) (Kd.R_lt (by (with_reducible repeat (first | apply Kd.R_alloc | apply Kd.R_drewN | apply Kd.R_drew)); exact HO417.out))) (Kd.R_lt (by (with_reducible repeat (first | apply Kd.R_alloc | apply Kd.R_drewN | apply Kd.R_drew)); exact HO422.out))) (Kd.R_lt (by (with_reducible repeat (first | apply Kd.R_alloc | apply Kd.R_drewN | apply Kd.R_drew)); exact HO425.out))) (below_size (by repeat (first | (with_reducible first | exact HB.out | apply below_alloc | apply pw_below_drewN | apply below_drew1 | refine below_set ?_ GE404.out | refine below_set ?_ GE413.out | refine below_set ?_ GE418.out) | exact HB.out)))); have n6_ := Aside0.mk (blk_below (g := gb404) (o := .cells #[.int .i64 t402, .int .i64 t403] 60 (0, 0)) (by (with_reducible repeat (first | refine blk_drewN ?_ _ | refine blk_drew ?_ | refine blk_alloc ?_ _)); exact BK404.out) hb); have n7_ := Aside0.mk (blk_below (g := gb413) (o := .cells #[.int .i64 t409, .slice Ao25 t410.length co25] 51 (0, 0)) (by (with_reducible repeat (first | refine blk_drewN ?_ _ | refine blk_drew ?_ | refine blk_alloc ?_ _)); exact BK413.out) hb); have n8_ := Aside0.mk (blk_below (g := gb418) (o := .cells #[.int .i64 t414, .slice Ao31 t415.length co31] 51 (0, 0)) (by (with_reducible repeat (first | refine blk_drewN ?_ _ | refine blk_drew ?_ | refine blk_alloc ?_ _)); exact BK418.out) hb); have n9_ := Aside0.mk (below_step (by repeat (first | (with_reducible first | exact HB.out | apply below_alloc | apply pw_below_drewN | apply below_drew1 | refine below_set ?_ GE404.out | refine below_set ?_ GE413.out | refine below_set ?_ GE418.out) | exact HB.out)) hb); clear HO408; clear HO412; clear HO417; clear HO422; clear HO425; clear BK404; clear BK413; clear BK418; clear HB; have HO408 := n0_; have HO412 := n1_; have HO417 := n2_; have HO422 := n3_; have HO425 := n4_; have HO428 := n5_; have BK404 := n6_; have BK413 := n7_; have BK418 := n8_; have HB := n9_; clear n0_ n1_ n2_ n3_ n4_ n5_ n6_ n7_ n8_ n9_; (try clear hb); (try clear hb2); (try clear hk); (try clear hi); (try clear ho0)))
        (try simp only [Act.put, List.setIfInBounds_toArray, List.set_cons_zero, List.set_cons_succ])
        go_cut [106] (fun v106 wc => ∃ (kq : Nat) (x106_13 : Bool), v106 = .bool x106_13 ∧ Aside0 (laws_FnChance.j1 kq t400 t401 t405 t406 t419 t420 t423 t426 x106_13 t402 t403 t409 t410 = some r) ∧ Aside0 (kq ≤ kj2) ∧ Aside0 (Kd.R (Kd.int .i64) 2 wc w.heap.size (fun k_ => some k_ ≠ ((.slice Ao33 t419.length co33) : Value).ownBlock ∧ some k_ ≠ (v424 : Value).ownBlock ∧ some k_ ≠ (v427 : Value).ownBlock ∧ some k_ ≠ ((.slice Ao25 t410.length co25) : Value).ownBlock ∧ some k_ ≠ ((.slice Ao31 t415.length co31) : Value).ownBlock) (.slice Ao20 t405.length co20) t405) ∧ Aside0 (Kd.R (Kd.int .i64) 2 wc w.heap.size (fun k_ => some k_ ≠ ((.slice Ao20 t405.length co20) : Value).ownBlock ∧ some k_ ≠ (v424 : Value).ownBlock ∧ some k_ ≠ (v427 : Value).ownBlock ∧ some k_ ≠ ((.slice Ao25 t410.length co25) : Value).ownBlock ∧ some k_ ≠ ((.slice Ao31 t415.length co31) : Value).ownBlock) (.slice Ao33 t419.length co33) t419) ∧ Aside0 (Kd.R (Kd.int .i64) 2 wc w.heap.size (fun k_ => some k_ ≠ ((.slice Ao20 t405.length co20) : Value).ownBlock ∧ some k_ ≠ ((.slice Ao33 t419.length co33) : Value).ownBlock ∧ some k_ ≠ (v427 : Value).ownBlock ∧ some k_ ≠ ((.slice Ao25 t410.length co25) : Value).ownBlock ∧ some k_ ≠ ((.slice Ao31 t415.length co31) : Value).ownBlock) v424 t423) ∧ Aside0 (Kd.R (Kd.int .i64) 2 wc w.heap.size (fun k_ => some k_ ≠ ((.slice Ao20 t405.length co20) : Value).ownBlock ∧ some k_ ≠ ((.slice Ao33 t419.length co33) : Value).ownBlock ∧ some k_ ≠ (v424 : Value).ownBlock ∧ some k_ ≠ ((.slice Ao25 t410.length co25) : Value).ownBlock ∧ some k_ ≠ ((.slice Ao31 t415.length co31) : Value).ownBlock) v427 t426) ∧ Aside0 (Kd.R (Kd.int .i64) 2 wc w.heap.size (fun k_ => some k_ ≠ ((.slice Ao20 t405.length co20) : Value).ownBlock ∧ some k_ ≠ ((.slice Ao33 t419.length co33) : Value).ownBlock ∧ some k_ ≠ (v424 : Value).ownBlock ∧ some k_ ≠ (v427 : Value).ownBlock ∧ some k_ ≠ ((.slice Ao31 t415.length co31) : Value).ownBlock) (.slice Ao25 t410.length co25) t410) ∧ Aside0 (Kd.R (Kd.int .i64) 2 wc w.heap.size (fun k_ => some k_ ≠ ((.slice Ao20 t405.length co20) : Value).ownBlock ∧ some k_ ≠ ((.slice Ao33 t419.length co33) : Value).ownBlock ∧ some k_ ≠ (v424 : Value).ownBlock ∧ some k_ ≠ (v427 : Value).ownBlock ∧ some k_ ≠ ((.slice Ao25 t410.length co25) : Value).ownBlock) (.slice Ao31 t415.length co31) t415) ∧ Aside0 (wc.heap[gb404]? = some (.cells #[.int .i64 t402, .int .i64 t403] 60 (0, 0))) ∧ Aside0 (wc.heap[gb413]? = some (.cells #[.int .i64 t409, (.slice Ao25 t410.length co25)] 51 (0, 0))) ∧ Aside0 (wc.heap[gb418]? = some (.cells #[.int .i64 t414, (.slice Ao31 t415.length co31)] 51 (0, 0))) ∧ Aside0 (Below w.heap.size w wc))
        case first =>
          as_aux_lemma =>
          have H := HC14.out
          clear HC14
          replace H := Option.bind_eq_some_iff.mp H
          obtain ⟨⟨t429, t430⟩, A360, H⟩ := H
          replace H : (if (!(t402 == t429) || (!(t403 == t430))) = true then (laws_FnChance.j1 kj2 t400 t401 t405 t406 t419 t420 t423 t426 true t402 t403 t409 t410) else (if t409 = t414 then ((laws_lwNums.f kj2 t410 t415).bind fun t431 => (if t431 = true then ((spec_SetPut.f kj2 t419 t420).bind fun t432 => ((laws_lwNums.f kj2 t423 t432).bind fun t435 => (if t435 = true then ((spec_SetDrop.f kj2 t419 t420).bind fun t436 => ((laws_lwNums.f kj2 t426 t436).bind fun t439 => (if t439 = true then ((impl_SetHas.f kj2 t419 t420).bind fun t440 => ((spec_SetHas.f kj2 t419 t420).bind fun t441 => (if (t440 != t441) = true then (laws_FnChance.j1 kj2 t400 t401 t405 t406 t419 t420 t423 t426 true t402 t403 t409 t410) else ((impl_SetRight.f kj2 t419).bind fun t442 => ((spec_SetRight.f kj2 t419).bind fun t443 => (laws_FnChance.j1 kj2 t400 t401 t405 t406 t419 t420 t423 t426 (t442 != t443) t402 t403 t409 t410)))))) else (laws_FnChance.j1 kj2 t400 t401 t405 t406 t419 t420 t423 t426 true t402 t403 t409 t410)))) else (laws_FnChance.j1 kj2 t400 t401 t405 t406 t419 t420 t423 t426 true t402 t403 t409 t410)))) else (laws_FnChance.j1 kj2 t400 t401 t405 t406 t419 t420 t423 t426 true t402 t403 t409 t410))) else (laws_FnChance.j1 kj2 t400 t401 t405 t406 t419 t420 t423 t426 true t402 t403 t409 t410))) = some r := H
          have A36 := Aside0.mk A360
          clear A360
          by_cases c37 : (!(t402 == t429) || (!(t403 == t430))) = true
          · rw [if_pos c37] at H
            have c37b0 : (!(t402 == t429) || (!(t403 == t430))) = true := c37
            clear c37
            (first | rw [c37b0] | (simp only [i64_w, i32_w]; rw [c37b0]) | skip)
            exact absurd (H.trans (congrArg some HT_.out)) (laws_FnChance.j1_no _ _ _ _ _ _ _ _ _ _ _ _ _)
          · rw [if_neg c37] at H
            have c37b0 : (!(t402 == t429) || (!(t403 == t430))) = false := by simpa using c37
            clear c37
            (first | rw [c37b0] | (simp only [i64_w, i32_w]; rw [c37b0]) | skip)
            by_cases c40 : t409 = t414
            · rw [if_pos c40] at H
              have c40b0 : (t409 == t414) = true := beq_iff_eq.mpr c40
              have c40b1 : (t409 != t414) = false := bne_eq_false_iff_eq.mpr c40
              clear c40
              replace H := Option.bind_eq_some_iff.mp H
              obtain ⟨t431, A410, H⟩ := H
              replace H : (if t431 = true then ((spec_SetPut.f kj2 t419 t420).bind fun t432 => ((laws_lwNums.f kj2 t423 t432).bind fun t435 => (if t435 = true then ((spec_SetDrop.f kj2 t419 t420).bind fun t436 => ((laws_lwNums.f kj2 t426 t436).bind fun t439 => (if t439 = true then ((impl_SetHas.f kj2 t419 t420).bind fun t440 => ((spec_SetHas.f kj2 t419 t420).bind fun t441 => (if (t440 != t441) = true then (laws_FnChance.j1 kj2 t400 t401 t405 t406 t419 t420 t423 t426 true t402 t403 t409 t410) else ((impl_SetRight.f kj2 t419).bind fun t442 => ((spec_SetRight.f kj2 t419).bind fun t443 => (laws_FnChance.j1 kj2 t400 t401 t405 t406 t419 t420 t423 t426 (t442 != t443) t402 t403 t409 t410)))))) else (laws_FnChance.j1 kj2 t400 t401 t405 t406 t419 t420 t423 t426 true t402 t403 t409 t410)))) else (laws_FnChance.j1 kj2 t400 t401 t405 t406 t419 t420 t423 t426 true t402 t403 t409 t410)))) else (laws_FnChance.j1 kj2 t400 t401 t405 t406 t419 t420 t423 t426 true t402 t403 t409 t410)) = some r := H
              have A41 := Aside0.mk A410
              clear A410
              by_cases c42 : t431 = true
              · subst c42
                have H1 : ((spec_SetPut.f kj2 t419 t420).bind fun t432 => ((laws_lwNums.f kj2 t423 t432).bind fun t435 => (if t435 = true then ((spec_SetDrop.f kj2 t419 t420).bind fun t436 => ((laws_lwNums.f kj2 t426 t436).bind fun t439 => (if t439 = true then ((impl_SetHas.f kj2 t419 t420).bind fun t440 => ((spec_SetHas.f kj2 t419 t420).bind fun t441 => (if (t440 != t441) = true then (laws_FnChance.j1 kj2 t400 t401 t405 t406 t419 t420 t423 t426 true t402 t403 t409 t410) else ((impl_SetRight.f kj2 t419).bind fun t442 => ((spec_SetRight.f kj2 t419).bind fun t443 => (laws_FnChance.j1 kj2 t400 t401 t405 t406 t419 t420 t423 t426 (t442 != t443) t402 t403 t409 t410)))))) else (laws_FnChance.j1 kj2 t400 t401 t405 t406 t419 t420 t423 t426 true t402 t403 t409 t410)))) else (laws_FnChance.j1 kj2 t400 t401 t405 t406 t419 t420 t423 t426 true t402 t403 t409 t410)))) = some r := by rw [if_pos rfl] at H; exact H
                clear H
                have H := H1
                clear H1
                replace H := Option.bind_eq_some_iff.mp H
                obtain ⟨t432, A430, H⟩ := H
                replace H : ((laws_lwNums.f kj2 t423 t432).bind fun t435 => (if t435 = true then ((spec_SetDrop.f kj2 t419 t420).bind fun t436 => ((laws_lwNums.f kj2 t426 t436).bind fun t439 => (if t439 = true then ((impl_SetHas.f kj2 t419 t420).bind fun t440 => ((spec_SetHas.f kj2 t419 t420).bind fun t441 => (if (t440 != t441) = true then (laws_FnChance.j1 kj2 t400 t401 t405 t406 t419 t420 t423 t426 true t402 t403 t409 t410) else ((impl_SetRight.f kj2 t419).bind fun t442 => ((spec_SetRight.f kj2 t419).bind fun t443 => (laws_FnChance.j1 kj2 t400 t401 t405 t406 t419 t420 t423 t426 (t442 != t443) t402 t403 t409 t410)))))) else (laws_FnChance.j1 kj2 t400 t401 t405 t406 t419 t420 t423 t426 true t402 t403 t409 t410)))) else (laws_FnChance.j1 kj2 t400 t401 t405 t406 t419 t420 t423 t426 true t402 t403 t409 t410))) = some r := H
                have A43 := Aside0.mk A430
                clear A430
                replace H := Option.bind_eq_some_iff.mp H
                obtain ⟨t435, A440, H⟩ := H
                replace H : (if t435 = true then ((spec_SetDrop.f kj2 t419 t420).bind fun t436 => ((laws_lwNums.f kj2 t426 t436).bind fun t439 => (if t439 = true then ((impl_SetHas.f kj2 t419 t420).bind fun t440 => ((spec_SetHas.f kj2 t419 t420).bind fun t441 => (if (t440 != t441) = true then (laws_FnChance.j1 kj2 t400 t401 t405 t406 t419 t420 t423 t426 true t402 t403 t409 t410) else ((impl_SetRight.f kj2 t419).bind fun t442 => ((spec_SetRight.f kj2 t419).bind fun t443 => (laws_FnChance.j1 kj2 t400 t401 t405 t406 t419 t420 t423 t426 (t442 != t443) t402 t403 t409 t410)))))) else (laws_FnChance.j1 kj2 t400 t401 t405 t406 t419 t420 t423 t426 true t402 t403 t409 t410)))) else (laws_FnChance.j1 kj2 t400 t401 t405 t406 t419 t420 t423 t426 true t402 t403 t409 t410)) = some r := H
                have A44 := Aside0.mk A440
                clear A440
                by_cases c45 : t435 = true
                · subst c45
                  have H1 : ((spec_SetDrop.f kj2 t419 t420).bind fun t436 => ((laws_lwNums.f kj2 t426 t436).bind fun t439 => (if t439 = true then ((impl_SetHas.f kj2 t419 t420).bind fun t440 => ((spec_SetHas.f kj2 t419 t420).bind fun t441 => (if (t440 != t441) = true then (laws_FnChance.j1 kj2 t400 t401 t405 t406 t419 t420 t423 t426 true t402 t403 t409 t410) else ((impl_SetRight.f kj2 t419).bind fun t442 => ((spec_SetRight.f kj2 t419).bind fun t443 => (laws_FnChance.j1 kj2 t400 t401 t405 t406 t419 t420 t423 t426 (t442 != t443) t402 t403 t409 t410)))))) else (laws_FnChance.j1 kj2 t400 t401 t405 t406 t419 t420 t423 t426 true t402 t403 t409 t410)))) = some r := by rw [if_pos rfl] at H; exact H
                  clear H
                  have H := H1
                  clear H1
                  replace H := Option.bind_eq_some_iff.mp H
                  obtain ⟨t436, A460, H⟩ := H
                  replace H : ((laws_lwNums.f kj2 t426 t436).bind fun t439 => (if t439 = true then ((impl_SetHas.f kj2 t419 t420).bind fun t440 => ((spec_SetHas.f kj2 t419 t420).bind fun t441 => (if (t440 != t441) = true then (laws_FnChance.j1 kj2 t400 t401 t405 t406 t419 t420 t423 t426 true t402 t403 t409 t410) else ((impl_SetRight.f kj2 t419).bind fun t442 => ((spec_SetRight.f kj2 t419).bind fun t443 => (laws_FnChance.j1 kj2 t400 t401 t405 t406 t419 t420 t423 t426 (t442 != t443) t402 t403 t409 t410)))))) else (laws_FnChance.j1 kj2 t400 t401 t405 t406 t419 t420 t423 t426 true t402 t403 t409 t410))) = some r := H
                  have A46 := Aside0.mk A460
                  clear A460
                  replace H := Option.bind_eq_some_iff.mp H
                  obtain ⟨t439, A470, H⟩ := H
                  replace H : (if t439 = true then ((impl_SetHas.f kj2 t419 t420).bind fun t440 => ((spec_SetHas.f kj2 t419 t420).bind fun t441 => (if (t440 != t441) = true then (laws_FnChance.j1 kj2 t400 t401 t405 t406 t419 t420 t423 t426 true t402 t403 t409 t410) else ((impl_SetRight.f kj2 t419).bind fun t442 => ((spec_SetRight.f kj2 t419).bind fun t443 => (laws_FnChance.j1 kj2 t400 t401 t405 t406 t419 t420 t423 t426 (t442 != t443) t402 t403 t409 t410)))))) else (laws_FnChance.j1 kj2 t400 t401 t405 t406 t419 t420 t423 t426 true t402 t403 t409 t410)) = some r := H
                  have A47 := Aside0.mk A470
                  clear A470
                  by_cases c48 : t439 = true
                  · subst c48
                    have H1 : ((impl_SetHas.f kj2 t419 t420).bind fun t440 => ((spec_SetHas.f kj2 t419 t420).bind fun t441 => (if (t440 != t441) = true then (laws_FnChance.j1 kj2 t400 t401 t405 t406 t419 t420 t423 t426 true t402 t403 t409 t410) else ((impl_SetRight.f kj2 t419).bind fun t442 => ((spec_SetRight.f kj2 t419).bind fun t443 => (laws_FnChance.j1 kj2 t400 t401 t405 t406 t419 t420 t423 t426 (t442 != t443) t402 t403 t409 t410)))))) = some r := by rw [if_pos rfl] at H; exact H
                    clear H
                    have H := H1
                    clear H1
                    replace H := Option.bind_eq_some_iff.mp H
                    obtain ⟨t440, A490, H⟩ := H
                    replace H : ((spec_SetHas.f kj2 t419 t420).bind fun t441 => (if (t440 != t441) = true then (laws_FnChance.j1 kj2 t400 t401 t405 t406 t419 t420 t423 t426 true t402 t403 t409 t410) else ((impl_SetRight.f kj2 t419).bind fun t442 => ((spec_SetRight.f kj2 t419).bind fun t443 => (laws_FnChance.j1 kj2 t400 t401 t405 t406 t419 t420 t423 t426 (t442 != t443) t402 t403 t409 t410))))) = some r := H
                    have A49 := Aside0.mk A490
                    clear A490
                    replace H := Option.bind_eq_some_iff.mp H
                    obtain ⟨t441, A500, H⟩ := H
                    replace H : (if (t440 != t441) = true then (laws_FnChance.j1 kj2 t400 t401 t405 t406 t419 t420 t423 t426 true t402 t403 t409 t410) else ((impl_SetRight.f kj2 t419).bind fun t442 => ((spec_SetRight.f kj2 t419).bind fun t443 => (laws_FnChance.j1 kj2 t400 t401 t405 t406 t419 t420 t423 t426 (t442 != t443) t402 t403 t409 t410)))) = some r := H
                    have A50 := Aside0.mk A500
                    clear A500
                    by_cases c51 : (t440 != t441) = true
                    · rw [if_pos c51] at H
                      have c51b0 : (t440 != t441) = true := c51
                      (try (have c51b1 : decide (t440 = t441) = false := by simpa using c51))
                      (try (have c51b2 : (t440 == t441) = false := by simpa using c51))
                      (try (have c51b3 : ¬ (t440 = t441) := by simpa using c51))
                      clear c51
                      exact absurd (H.trans (congrArg some HT_.out)) (laws_FnChance.j1_no _ _ _ _ _ _ _ _ _ _ _ _ _)
                    · rw [if_neg c51] at H
                      have c51b0 : (t440 != t441) = false := by simpa using c51
                      (try (have c51b1 : decide (t440 = t441) = true := by simpa using c51))
                      (try (have c51b2 : (t440 == t441) = true := by simpa using c51))
                      clear c51
                      replace H := Option.bind_eq_some_iff.mp H
                      obtain ⟨t442, A600, H⟩ := H
                      replace H : ((spec_SetRight.f kj2 t419).bind fun t443 => (laws_FnChance.j1 kj2 t400 t401 t405 t406 t419 t420 t423 t426 (t442 != t443) t402 t403 t409 t410)) = some r := H
                      have A60 := Aside0.mk A600
                      clear A600
                      replace H := Option.bind_eq_some_iff.mp H
                      obtain ⟨t443, A610, H⟩ := H
                      replace H : (laws_FnChance.j1 kj2 t400 t401 t405 t406 t419 t420 t423 t426 (t442 != t443) t402 t403 t409 t410) = some r := H
                      have A61 := Aside0.mk A610
                      clear A610
                      have H' := Aside0.mk H
                      clear H
                      try go_wp2
                      have n0_ := Aside0.mk (Kd.R_drew HO408.out)
                      have n1_ := Aside0.mk (Kd.R_drew HO412.out)
                      have n2_ := Aside0.mk (Kd.R_drew HO417.out)
                      have n3_ := Aside0.mk (Kd.R_drew HO422.out)
                      have n4_ := Aside0.mk (Kd.R_drew HO425.out)
                      have n5_ := Aside0.mk (Kd.R_drew HO428.out)
                      have n6_ := Aside0.mk (blk_drew BK404.out)
                      have n7_ := Aside0.mk (blk_drew BK413.out)
                      have n8_ := Aside0.mk (blk_drew BK418.out)
                      have n9_ := Aside0.mk (below_drew1 HB.out)
                      clear HO408
                      clear HO412
                      clear HO417
                      clear HO422
                      clear HO425
                      clear HO428
                      clear BK404
                      clear BK413
                      clear BK418
                      clear HB
                      have HO408 := n0_
                      have HO412 := n1_
                      have HO417 := n2_
                      have HO422 := n3_
                      have HO425 := n4_
                      have HO428 := n5_
                      have BK404 := n6_
                      have BK413 := n7_
                      have BK418 := n8_
                      have HB := n9_
                      clear n0_ n1_ n2_ n3_ n4_ n5_ n6_ n7_ n8_ n9_
                      refine start_ (n := 52) (S := fun w' => w'.cell? ⟨gb404, 0, none⟩ = some (.int .i64 t402) ∧ w'.cell? ⟨gb404, 1, none⟩ = some (.int .i64 t403) ∧ w'.cell? ⟨gb413, 0, none⟩ = some (.int .i64 t409) ∧ w'.cell? ⟨gb413, 1, none⟩ = some (.slice Ao25 t410.length co25) ∧ w'.cell? ⟨gb418, 0, none⟩ = some (.int .i64 t414) ∧ w'.cell? ⟨gb418, 1, none⟩ = some (.slice Ao31 t415.length co31)) (ds := []) #[false, false, false, false, false, false, false, false, false, false, false, false, false, false, false, false, false, false, false, false, false, false, false, false, false, false, false, false, false, false, false, false, false, false, false, false, false, false, false, false, false, false, false, false, false, false, false, false, false, false, false, false] (by kernel_rfl) rfl rfl ⟨(blk_cell BK404.out 0).trans rfl, (blk_cell BK404.out 1).trans rfl, (blk_cell BK413.out 0).trans rfl, (blk_cell BK413.out 1).trans rfl, (blk_cell BK418.out 0).trans rfl, (blk_cell BK418.out 1).trans rfl⟩ (fun hHeld => ?_); refine with_tabW laws_FnChance.tab10 laws_FnChance.bits10 (fun HT_ HW_ => ?_)
                      generalize w35.drew = w62 at HO408 HO412 HO417 HO422 HO425 HO428 BK404 BK413 BK418 HB hHeld ⊢
                      refine pure_ (i := 1) (N := some 56) (v := ?_) (a' := ?_) #[false, true, false, false, false, false, false, false, false, false, false, false, false, false, false, false, false, false, false, false, false, false, false, false, false, false, false, false, false, false, false, false, false, false, false, false, false, false, false, false, false, false, false, false, false, false, false, false, false, false, false, false] rfl rfl (any_of HT_.out (by kernel_rfl)) (fun _ _ _ h => h) (Or.inl ⟨by rfl, ?_⟩) ?_ ?_
                      rotate_left
                      · intro w'
                        go_simp
                        with_reducible rfl
                      rotate_left
                      · simp only [Act.put, List.setIfInBounds_toArray, List.set_cons_zero, List.set_cons_succ, i64_w, i32_w]
                        rfl
                      refine pure_ (i := 2) (N := some 57) (v := ?_) (a' := ?_) #[false, true, true, false, false, false, false, false, false, false, false, false, false, false, false, false, false, false, false, false, false, false, false, false, false, false, false, false, false, false, false, false, false, false, false, false, false, false, false, false, false, false, false, false, false, false, false, false, false, false, false, false] rfl rfl (any_of HT_.out (by kernel_rfl)) (fun _ _ _ h => h) (Or.inl ⟨by rfl, ?_⟩) ?_ ?_
                      rotate_left
                      · intro w'
                        go_simp
                        with_reducible rfl
                      rotate_left
                      · simp only [Act.put, List.setIfInBounds_toArray, List.set_cons_zero, List.set_cons_succ, i64_w, i32_w]
                        rfl
                      refine take_ (i := 0) (N := some 55) (v := ?_) (a' := ?_) #[true, true, true, false, false, false, false, false, false, false, false, false, false, false, false, false, false, false, false, false, false, false, false, false, false, false, false, false, false, false, false, false, false, false, false, false, false, false, false, false, false, false, false, false, false, false, false, false, false, false, false, false] rfl rfl (take_ofW HT_.out HW_.out (by kernel_rfl)) (fun _ _ _ h => h) (Or.inl ⟨by rfl, ?_⟩) hHeld ?_ ?_
                      rotate_left
                      · rintro w' ⟨s0, s1, s2, s3, s4, s5⟩
                        go_simp
                        with_reducible rfl
                      rotate_left
                      · simp only [Act.put, List.setIfInBounds_toArray, List.set_cons_zero, List.set_cons_succ, i64_w, i32_w]
                        rfl
                      refine one_ (i := 3) (N := some 58) #[true, true, true, true, false, false, false, false, false, false, false, false, false, false, false, false, false, false, false, false, false, false, false, false, false, false, false, false, false, false, false, false, false, false, false, false, false, false, false, false, false, false, false, false, false, false, false, false, false, false, false, false] rfl rfl (one_of HT_.out (by kernel_rfl)) (by decide) (fun K hK => ?_)
                      refine goes_ Try.func43 (by kernel_rfl) rfl #[.int .i64 t400, .int .i64 t401] (by rfl) rfl rfl (by (try simp only [List.map_toArray, List.map_cons, List.map_nil]); first | done | rfl | (simp only [List.length_drop, List.length_take]; rfl)) ?_
                      with_reducible refine (spec_Chance.calls t400 t401 t429 t430 _ A36.out).mono ?_
                      rintro e w63 ⟨rfl, hb⟩
                      refine ⟨_, rfl, ?_⟩
                      have n0_ := Aside0.mk (Kd.R_below (by (with_reducible repeat (first | apply Kd.R_alloc | apply Kd.R_drewN | apply Kd.R_drew)); exact HO408.out) hb)
                      have n1_ := Aside0.mk (Kd.R_below (by (with_reducible repeat (first | apply Kd.R_alloc | apply Kd.R_drewN | apply Kd.R_drew)); exact HO412.out) hb)
                      have n2_ := Aside0.mk (Kd.R_below (by (with_reducible repeat (first | apply Kd.R_alloc | apply Kd.R_drewN | apply Kd.R_drew)); exact HO417.out) hb)
                      have n3_ := Aside0.mk (Kd.R_below (by (with_reducible repeat (first | apply Kd.R_alloc | apply Kd.R_drewN | apply Kd.R_drew)); exact HO422.out) hb)
                      have n4_ := Aside0.mk (Kd.R_below (by (with_reducible repeat (first | apply Kd.R_alloc | apply Kd.R_drewN | apply Kd.R_drew)); exact HO425.out) hb)
                      have n5_ := Aside0.mk (Kd.R_below (by (with_reducible repeat (first | apply Kd.R_alloc | apply Kd.R_drewN | apply Kd.R_drew)); exact HO428.out) hb)
                      have n6_ := Aside0.mk (blk_below (g := gb404) (o := .cells #[.int .i64 t402, .int .i64 t403] 60 (0, 0)) (by (with_reducible repeat (first | refine blk_drewN ?_ _ | refine blk_drew ?_ | refine blk_alloc ?_ _)); exact BK404.out) hb)
                      have n7_ := Aside0.mk (blk_below (g := gb413) (o := .cells #[.int .i64 t409, .slice Ao25 t410.length co25] 51 (0, 0)) (by (with_reducible repeat (first | refine blk_drewN ?_ _ | refine blk_drew ?_ | refine blk_alloc ?_ _)); exact BK413.out) hb)
                      have n8_ := Aside0.mk (blk_below (g := gb418) (o := .cells #[.int .i64 t414, .slice Ao31 t415.length co31] 51 (0, 0)) (by (with_reducible repeat (first | refine blk_drewN ?_ _ | refine blk_drew ?_ | refine blk_alloc ?_ _)); exact BK418.out) hb)
                      have n9_ := Aside0.mk (below_step (by repeat (first | (with_reducible first | exact HB.out | apply below_alloc | apply pw_below_drewN | apply below_drew1 | refine below_set ?_ GE404.out | refine below_set ?_ GE413.out | refine below_set ?_ GE418.out) | exact HB.out)) hb)
                      clear HO408
                      clear HO412
                      clear HO417
                      clear HO422
                      clear HO425
                      clear HO428
                      clear BK404
                      clear BK413
                      clear BK418
                      clear HB
                      have HO408 := n0_
                      have HO412 := n1_
                      have HO417 := n2_
                      have HO422 := n3_
                      have HO425 := n4_
                      have HO428 := n5_
                      have BK404 := n6_
                      have BK413 := n7_
                      have BK418 := n8_
                      have HB := n9_
                      clear n0_ n1_ n2_ n3_ n4_ n5_ n6_ n7_ n8_ n9_
                      (try clear hb)
                      (try clear hb2)
                      (try clear hk)
                      (try clear hi)
                      refine hK.out _ _ ⟨(blk_cell BK404.out 0).trans rfl, (blk_cell BK404.out 1).trans rfl, (blk_cell BK413.out 0).trans rfl, (blk_cell BK413.out 1).trans rfl, (blk_cell BK418.out 0).trans rfl, (blk_cell BK418.out 1).trans rfl⟩ (fun hHeld => ?_)
                      clear hK K
                      refine norm_ (a' := ?_) ?_ ?_
                      rotate_left
                      · show Act.put _ (some 58) _ = _
                        simp only [Act.put, List.setIfInBounds_toArray, List.set_cons_zero, List.set_cons_succ, i64_w, i32_w]
                        rfl
                      refine pure_ (i := 4) (N := some 59) (v := ?_) (a' := ?_) #[true, true, true, true, true, false, false, false, false, false, false, false, false, false, false, false, false, false, false, false, false, false, false, false, false, false, false, false, false, false, false, false, false, false, false, false, false, false, false, false, false, false, false, false, false, false, false, false, false, false, false, false] rfl rfl (any_of HT_.out (by kernel_rfl)) (fun _ _ _ h => h) (Or.inl ⟨by rfl, ?_⟩) ?_ ?_
                      rotate_left
                      · intro w'
                        go_simp
                        with_reducible rfl
                      rotate_left
                      · simp only [Act.put, List.setIfInBounds_toArray, List.set_cons_zero, List.set_cons_succ, i64_w, i32_w]
                        rfl
                      refine pure_ (i := 5) (N := some 60) (v := ?_) (a' := ?_) #[true, true, true, true, true, true, false, false, false, false, false, false, false, false, false, false, false, false, false, false, false, false, false, false, false, false, false, false, false, false, false, false, false, false, false, false, false, false, false, false, false, false, false, false, false, false, false, false, false, false, false, false] rfl rfl (any_of HT_.out (by kernel_rfl)) (fun _ _ _ h => h) (Or.inl ⟨by rfl, ?_⟩) ?_ ?_
                      rotate_left
                      · intro w'
                        go_simp
                        with_reducible rfl
                      rotate_left
                      · simp only [Act.put, List.setIfInBounds_toArray, List.set_cons_zero, List.set_cons_succ, i64_w, i32_w]
                        rfl
                      refine pure_ (i := 6) (N := some 61) (v := ?_) (a' := ?_) #[true, true, true, true, true, true, true, false, false, false, false, false, false, false, false, false, false, false, false, false, false, false, false, false, false, false, false, false, false, false, false, false, false, false, false, false, false, false, false, false, false, false, false, false, false, false, false, false, false, false, false, false] rfl rfl (any_of HT_.out (by kernel_rfl)) (fun _ _ _ h => h) (Or.inl ⟨by rfl, ?_⟩) ?_ ?_
                      rotate_left
                      · intro w'
                        go_simp
                        with_reducible rfl
                      rotate_left
                      · simp only [Act.put, List.setIfInBounds_toArray, List.set_cons_zero, List.set_cons_succ, i64_w, i32_w]
                        rfl
                      refine pure_ (i := 8) (N := some 63) (v := ?_) (a' := ?_) #[true, true, true, true, true, true, true, false, true, false, false, false, false, false, false, false, false, false, false, false, false, false, false, false, false, false, false, false, false, false, false, false, false, false, false, false, false, false, false, false, false, false, false, false, false, false, false, false, false, false, false, false] rfl rfl (any_of HT_.out (by kernel_rfl)) (fun _ _ _ h => h) (Or.inl ⟨by rfl, ?_⟩) ?_ ?_
                      rotate_left
                      · intro w'
                        go_simp
                        with_reducible rfl
                      rotate_left
                      · simp only [Act.put, List.setIfInBounds_toArray, List.set_cons_zero, List.set_cons_succ, i64_w, i32_w]
                        rfl
                      refine take_ (i := 7) (N := some 62) (v := ?_) (a' := ?_) #[true, true, true, true, true, true, true, true, true, false, false, false, false, false, false, false, false, false, false, false, false, false, false, false, false, false, false, false, false, false, false, false, false, false, false, false, false, false, false, false, false, false, false, false, false, false, false, false, false, false, false, false] rfl rfl (take_ofW HT_.out HW_.out (by kernel_rfl)) (fun _ _ _ h => h) (Or.inl ⟨by rfl, ?_⟩) hHeld ?_ ?_
                      rotate_left
                      · rintro w' ⟨s0, s1, s2, s3, s4, s5⟩
                        go_simp
                        with_reducible rfl
                      rotate_left
                      · simp only [Act.put, List.setIfInBounds_toArray, List.set_cons_zero, List.set_cons_succ, i64_w, i32_w]
                        rfl
                      refine take_ (i := 9) (N := some 64) (v := ?_) (a' := ?_) #[true, true, true, true, true, true, true, true, true, true, false, false, false, false, false, false, false, false, false, false, false, false, false, false, false, false, false, false, false, false, false, false, false, false, false, false, false, false, false, false, false, false, false, false, false, false, false, false, false, false, false, false] rfl rfl (take_ofW HT_.out HW_.out (by kernel_rfl)) (fun _ _ _ h => h) (Or.inl ⟨by rfl, ?_⟩) hHeld ?_ ?_
                      rotate_left
                      · rintro w' ⟨s0, s1, s2, s3, s4, s5⟩
                        go_simp
                        with_reducible rfl
                      rotate_left
                      · simp only [Act.put, List.setIfInBounds_toArray, List.set_cons_zero, List.set_cons_succ, i64_w, i32_w]
                        rfl
                      refine pure_ (i := 10) (N := some 65) (v := ?_) (a' := ?_) #[true, true, true, true, true, true, true, true, true, true, true, false, false, false, false, false, false, false, false, false, false, false, false, false, false, false, false, false, false, false, false, false, false, false, false, false, false, false, false, false, false, false, false, false, false, false, false, false, false, false, false, false] rfl rfl (any_of HT_.out (by kernel_rfl)) (fun _ _ _ h => h) (Or.inl ⟨by rfl, ?_⟩) ?_ ?_
                      rotate_left
                      · intro w'
                        go_simp
                        with_reducible rfl
                      rotate_left
                      · simp only [Act.put, List.setIfInBounds_toArray, List.set_cons_zero, List.set_cons_succ, i64_w, i32_w]
                        rfl
                      refine pure_ (i := 11) (N := some 66) (v := ?_) (a' := ?_) #[true, true, true, true, true, true, true, true, true, true, true, true, false, false, false, false, false, false, false, false, false, false, false, false, false, false, false, false, false, false, false, false, false, false, false, false, false, false, false, false, false, false, false, false, false, false, false, false, false, false, false, false] rfl rfl (any_of HT_.out (by kernel_rfl)) (fun _ _ _ h => h) (Or.inl ⟨by rfl, ?_⟩) ?_ ?_
                      rotate_left
                      · intro w'
                        go_simp
                        with_reducible rfl
                      rotate_left
                      · simp only [Act.put, List.setIfInBounds_toArray, List.set_cons_zero, List.set_cons_succ, i64_w, i32_w]
                        rfl
                      refine pure_ (i := 12) (N := some 67) (v := ?_) (a' := ?_) #[true, true, true, true, true, true, true, true, true, true, true, true, true, false, false, false, false, false, false, false, false, false, false, false, false, false, false, false, false, false, false, false, false, false, false, false, false, false, false, false, false, false, false, false, false, false, false, false, false, false, false, false] rfl rfl (any_of HT_.out (by kernel_rfl)) (fun _ _ _ h => h) (Or.inl ⟨by rfl, ?_⟩) ?_ ?_
                      rotate_left
                      · intro w'
                        go_simp
                        with_reducible rfl
                      rotate_left
                      · simp only [Act.put, List.setIfInBounds_toArray, List.set_cons_zero, List.set_cons_succ, i64_w, i32_w]
                        rfl
                      refine pure_ (i := 13) (N := some 68) (v := ?_) (a' := ?_) #[true, true, true, true, true, true, true, true, true, true, true, true, true, true, false, false, false, false, false, false, false, false, false, false, false, false, false, false, false, false, false, false, false, false, false, false, false, false, false, false, false, false, false, false, false, false, false, false, false, false, false, false] rfl rfl (any_of HT_.out (by kernel_rfl)) (fun _ _ _ h => h) (Or.inl ⟨by rfl, ?_⟩) ?_ ?_
                      rotate_left
                      · intro w'
                        go_simp
                        with_reducible rfl
                      rotate_left
                      · simp only [Act.put, List.setIfInBounds_toArray, List.set_cons_zero, List.set_cons_succ, i64_w, i32_w]
                        rfl
                      refine pure_ (i := 15) (N := some 70) (v := ?_) (a' := ?_) #[true, true, true, true, true, true, true, true, true, true, true, true, true, true, false, true, false, false, false, false, false, false, false, false, false, false, false, false, false, false, false, false, false, false, false, false, false, false, false, false, false, false, false, false, false, false, false, false, false, false, false, false] rfl rfl (any_of HT_.out (by kernel_rfl)) (fun _ _ _ h => h) (Or.inl ⟨by rfl, ?_⟩) ?_ ?_
                      rotate_left
                      · intro w'
                        go_simp
                        with_reducible rfl
                      rotate_left
                      · simp only [Act.put, List.setIfInBounds_toArray, List.set_cons_zero, List.set_cons_succ, i64_w, i32_w]
                        rfl
                      refine take_ (i := 14) (N := some 69) (v := ?_) (a' := ?_) #[true, true, true, true, true, true, true, true, true, true, true, true, true, true, true, true, false, false, false, false, false, false, false, false, false, false, false, false, false, false, false, false, false, false, false, false, false, false, false, false, false, false, false, false, false, false, false, false, false, false, false, false] rfl rfl (take_ofW HT_.out HW_.out (by kernel_rfl)) (fun _ _ _ h => h) (Or.inl ⟨by rfl, ?_⟩) hHeld ?_ ?_
                      rotate_left
                      · rintro w' ⟨s0, s1, s2, s3, s4, s5⟩
                        go_simp
                        with_reducible rfl
                      rotate_left
                      · simp only [Act.put, List.setIfInBounds_toArray, List.set_cons_zero, List.set_cons_succ, i64_w, i32_w]
                        rfl
                      refine take_ (i := 16) (N := some 71) (v := ?_) (a' := ?_) #[true, true, true, true, true, true, true, true, true, true, true, true, true, true, true, true, true, false, false, false, false, false, false, false, false, false, false, false, false, false, false, false, false, false, false, false, false, false, false, false, false, false, false, false, false, false, false, false, false, false, false, false] rfl rfl (take_ofW HT_.out HW_.out (by kernel_rfl)) (fun _ _ _ h => h) (Or.inl ⟨by rfl, ?_⟩) hHeld ?_ ?_
                      rotate_left
                      · rintro w' ⟨s0, s1, s2, s3, s4, s5⟩
                        go_simp
                        with_reducible rfl
                      rotate_left
                      · simp only [Act.put, List.setIfInBounds_toArray, List.set_cons_zero, List.set_cons_succ, i64_w, i32_w]
                        rfl
                      refine one_ (i := 17) (N := some 72) #[true, true, true, true, true, true, true, true, true, true, true, true, true, true, true, true, true, true, false, false, false, false, false, false, false, false, false, false, false, false, false, false, false, false, false, false, false, false, false, false, false, false, false, false, false, false, false, false, false, false, false, false] rfl rfl (one_of HT_.out (by kernel_rfl)) (by decide) (fun K hK => ?_)
                      refine goes_ Try.func31 (by kernel_rfl) rfl #[.slice Ao25 t410.length co25, .slice Ao31 t415.length co31] (by rfl) rfl rfl (by (try simp only [List.map_toArray, List.map_cons, List.map_nil]); first | done | rfl | (simp only [List.length_drop, List.length_take]; rfl)) ?_
                      with_reducible refine (laws_lwNums.calls kj2 _ _ t410 _ _ t415 true _ ?side1 ?side2 ?side3 ?side4 A41.out).mono ?_
                      (case side1 => repeat (first | exact (Kd.R_reads' HO412.out).2.2 | (with_reducible refine Kd.C_alloc ?_ _) | (with_reducible refine Kd.C_drewN ?_ _) | (with_reducible refine Kd.C_drew ?_)))
                      (case side2 => exact (Kd.R_reads' HO412.out).2.1)
                      (case side3 => repeat (first | exact (Kd.R_reads' HO417.out).2.2 | (with_reducible refine Kd.C_alloc ?_ _) | (with_reducible refine Kd.C_drewN ?_ _) | (with_reducible refine Kd.C_drew ?_)))
                      (case side4 => exact (Kd.R_reads' HO417.out).2.1)
                      rintro e w' ⟨rfl, ⟨nd, rfl⟩⟩
                      refine ⟨_, rfl, ?_⟩
                      refine hK.out _ _ ⟨(blk_cell BK404.out 0).trans rfl, (blk_cell BK404.out 1).trans rfl, (blk_cell BK413.out 0).trans rfl, (blk_cell BK413.out 1).trans rfl, (blk_cell BK418.out 0).trans rfl, (blk_cell BK418.out 1).trans rfl⟩ (fun hHeld => ?_)
                      clear hK K
                      refine norm_ (a' := ?_) ?_ ?_
                      rotate_left
                      · show Act.put _ (some 72) _ = _
                        simp only [Act.put, List.setIfInBounds_toArray, List.set_cons_zero, List.set_cons_succ, i64_w, i32_w]
                        rfl
                      refine pure_ (i := 18) (N := some 73) (v := ?_) (a' := ?_) #[true, true, true, true, true, true, true, true, true, true, true, true, true, true, true, true, true, true, true, false, false, false, false, false, false, false, false, false, false, false, false, false, false, false, false, false, false, false, false, false, false, false, false, false, false, false, false, false, false, false, false, false] rfl rfl (any_of HT_.out (by kernel_rfl)) (fun _ _ _ h => h) (Or.inl ⟨by rfl, ?_⟩) ?_ ?_
                      rotate_left
                      · intro w'
                        go_simp
                        with_reducible rfl
                      rotate_left
                      · simp only [Act.put, List.setIfInBounds_toArray, List.set_cons_zero, List.set_cons_succ, i64_w, i32_w]
                        rfl
                      refine pure_ (i := 19) (N := some 74) (v := ?_) (a' := ?_) #[true, true, true, true, true, true, true, true, true, true, true, true, true, true, true, true, true, true, true, true, false, false, false, false, false, false, false, false, false, false, false, false, false, false, false, false, false, false, false, false, false, false, false, false, false, false, false, false, false, false, false, false] rfl rfl (any_of HT_.out (by kernel_rfl)) (fun _ _ _ h => h) (Or.inl ⟨by rfl, ?_⟩) ?_ ?_
                      rotate_left
                      · intro w'
                        go_simp
                        with_reducible rfl
                      rotate_left
                      · simp only [Act.put, List.setIfInBounds_toArray, List.set_cons_zero, List.set_cons_succ, i64_w, i32_w]
                        rfl
                      refine pure_ (i := 20) (N := some 75) (v := ?_) (a' := ?_) #[true, true, true, true, true, true, true, true, true, true, true, true, true, true, true, true, true, true, true, true, true, false, false, false, false, false, false, false, false, false, false, false, false, false, false, false, false, false, false, false, false, false, false, false, false, false, false, false, false, false, false, false] rfl rfl (any_of HT_.out (by kernel_rfl)) (fun _ _ _ h => h) (Or.inl ⟨by rfl, ?_⟩) ?_ ?_
                      rotate_left
                      · intro w'
                        go_simp
                        with_reducible rfl
                      rotate_left
                      · simp only [Act.put, List.setIfInBounds_toArray, List.set_cons_zero, List.set_cons_succ, i64_w, i32_w]
                        rfl
                      refine pure_ (i := 21) (N := some 76) (v := ?_) (a' := ?_) #[true, true, true, true, true, true, true, true, true, true, true, true, true, true, true, true, true, true, true, true, true, true, false, false, false, false, false, false, false, false, false, false, false, false, false, false, false, false, false, false, false, false, false, false, false, false, false, false, false, false, false, false] rfl rfl (any_of HT_.out (by kernel_rfl)) (fun _ _ _ h => h) (Or.inl ⟨by rfl, ?_⟩) ?_ ?_
                      rotate_left
                      · intro w'
                        go_simp
                        with_reducible rfl
                      rotate_left
                      · simp only [Act.put, List.setIfInBounds_toArray, List.set_cons_zero, List.set_cons_succ, i64_w, i32_w]
                        rfl
                      refine pure_ (i := 22) (N := some 77) (v := ?_) (a' := ?_) #[true, true, true, true, true, true, true, true, true, true, true, true, true, true, true, true, true, true, true, true, true, true, true, false, false, false, false, false, false, false, false, false, false, false, false, false, false, false, false, false, false, false, false, false, false, false, false, false, false, false, false, false] rfl rfl (any_of HT_.out (by kernel_rfl)) (fun _ _ _ h => h) (Or.inl ⟨by rfl, ?_⟩) ?_ ?_
                      rotate_left
                      · intro w'
                        go_simp
                        with_reducible rfl
                      rotate_left
                      · simp only [Act.put, List.setIfInBounds_toArray, List.set_cons_zero, List.set_cons_succ, i64_w, i32_w]
                        rfl
                      refine pure_ (i := 23) (N := some 78) (v := ?_) (a' := ?_) #[true, true, true, true, true, true, true, true, true, true, true, true, true, true, true, true, true, true, true, true, true, true, true, true, false, false, false, false, false, false, false, false, false, false, false, false, false, false, false, false, false, false, false, false, false, false, false, false, false, false, false, false] rfl rfl (any_of HT_.out (by kernel_rfl)) (fun _ _ _ h => h) (Or.inl ⟨by rfl, ?_⟩) ?_ ?_
                      rotate_left
                      · intro w'
                        go_simp
                        with_reducible rfl
                      rotate_left
                      · simp only [Act.put, List.setIfInBounds_toArray, List.set_cons_zero, List.set_cons_succ, i64_w, i32_w]
                        rfl
                      refine one_ (i := 24) (N := some 79) #[true, true, true, true, true, true, true, true, true, true, true, true, true, true, true, true, true, true, true, true, true, true, true, true, true, false, false, false, false, false, false, false, false, false, false, false, false, false, false, false, false, false, false, false, false, false, false, false, false, false, false, false] rfl rfl (one_of HT_.out (by kernel_rfl)) (by decide) (fun K hK => ?_)
                      refine goes_ Try.func44 (by kernel_rfl) rfl #[.slice Ao33 t419.length co33, .int .i64 t420] (by rfl) rfl rfl (by (try simp only [List.map_toArray, List.map_cons, List.map_nil]); first | done | rfl | (simp only [List.length_drop, List.length_take]; rfl)) ?_
                      with_reducible refine (spec_SetPut.calls kj2 _ _ t419 t420 t432 _ ?side1 ?side2 A43.out).mono ?_
                      (case side1 => repeat (first | exact (Kd.R_reads' HO422.out).2.2 | (with_reducible refine Kd.C_alloc ?_ _) | (with_reducible refine Kd.C_drewN ?_ _) | (with_reducible refine Kd.C_drew ?_)))
                      (case side2 => exact (Kd.R_reads' HO422.out).2.1)
                      rintro e w64 ⟨v433, rfl, ho0, hb⟩
                      refine ⟨_, rfl, ?_⟩
                      have n0_ := Aside0.mk (Kd.R_elder' (by (with_reducible repeat (first | apply Kd.R_alloc | apply Kd.R_drewN | apply Kd.R_drew)); exact HO408.out) (Kd.R_base ho0) hb)
                      have n1_ := Aside0.mk (Kd.R_elder' (by (with_reducible repeat (first | apply Kd.R_alloc | apply Kd.R_drewN | apply Kd.R_drew)); exact HO412.out) (Kd.R_base ho0) hb)
                      have n2_ := Aside0.mk (Kd.R_elder' (by (with_reducible repeat (first | apply Kd.R_alloc | apply Kd.R_drewN | apply Kd.R_drew)); exact HO417.out) (Kd.R_base ho0) hb)
                      have n3_ := Aside0.mk (Kd.R_elder' (by (with_reducible repeat (first | apply Kd.R_alloc | apply Kd.R_drewN | apply Kd.R_drew)); exact HO422.out) (Kd.R_base ho0) hb)
                      have n4_ := Aside0.mk (Kd.R_elder' (by (with_reducible repeat (first | apply Kd.R_alloc | apply Kd.R_drewN | apply Kd.R_drew)); exact HO425.out) (Kd.R_base ho0) hb)
                      have n5_ := Aside0.mk (Kd.R_elder' (by (with_reducible repeat (first | apply Kd.R_alloc | apply Kd.R_drewN | apply Kd.R_drew)); exact HO428.out) (Kd.R_base ho0) hb)
                      have n6_ := Aside0.mk (Kd.R_lower (Kd.R_new' (Kd.R_new' (Kd.R_new' (Kd.R_new' (Kd.R_new' (Kd.R_new' ho0 (Kd.R_lt (by (with_reducible repeat (first | apply Kd.R_alloc | apply Kd.R_drewN | apply Kd.R_drew)); exact HO408.out))) (Kd.R_lt (by (with_reducible repeat (first | apply Kd.R_alloc | apply Kd.R_drewN | apply Kd.R_drew)); exact HO412.out))) (Kd.R_lt (by (with_reducible repeat (first | apply Kd.R_alloc | apply Kd.R_drewN | apply Kd.R_drew)); exact HO417.out))) (Kd.R_lt (by (with_reducible repeat (first | apply Kd.R_alloc | apply Kd.R_drewN | apply Kd.R_drew)); exact HO422.out))) (Kd.R_lt (by (with_reducible repeat (first | apply Kd.R_alloc | apply Kd.R_drewN | apply Kd.R_drew)); exact HO425.out))) (Kd.R_lt (by (with_reducible repeat (first | apply Kd.R_alloc | apply Kd.R_drewN | apply Kd.R_drew)); exact HO428.out))) (below_size (by repeat (first | (with_reducible first | exact HB.out | apply below_alloc | apply pw_below_drewN | apply below_drew1 | refine below_set ?_ GE404.out | refine below_set ?_ GE413.out | refine below_set ?_ GE418.out) | exact HB.out))))
                      have n7_ := Aside0.mk (blk_below (g := gb404) (o := .cells #[.int .i64 t402, .int .i64 t403] 60 (0, 0)) (by (with_reducible repeat (first | refine blk_drewN ?_ _ | refine blk_drew ?_ | refine blk_alloc ?_ _)); exact BK404.out) hb)
                      have n8_ := Aside0.mk (blk_below (g := gb413) (o := .cells #[.int .i64 t409, .slice Ao25 t410.length co25] 51 (0, 0)) (by (with_reducible repeat (first | refine blk_drewN ?_ _ | refine blk_drew ?_ | refine blk_alloc ?_ _)); exact BK413.out) hb)
                      have n9_ := Aside0.mk (blk_below (g := gb418) (o := .cells #[.int .i64 t414, .slice Ao31 t415.length co31] 51 (0, 0)) (by (with_reducible repeat (first | refine blk_drewN ?_ _ | refine blk_drew ?_ | refine blk_alloc ?_ _)); exact BK418.out) hb)
                      have n10_ := Aside0.mk (below_step (by repeat (first | (with_reducible first | exact HB.out | apply below_alloc | apply pw_below_drewN | apply below_drew1 | refine below_set ?_ GE404.out | refine below_set ?_ GE413.out | refine below_set ?_ GE418.out) | exact HB.out)) hb)
                      clear HO408
                      clear HO412
                      clear HO417
                      clear HO422
                      clear HO425
                      clear HO428
                      clear BK404
                      clear BK413
                      clear BK418
                      clear HB
                      have HO408 := n0_
                      have HO412 := n1_
                      have HO417 := n2_
                      have HO422 := n3_
                      have HO425 := n4_
                      have HO428 := n5_
                      have HO434 := n6_
                      have BK404 := n7_
                      have BK413 := n8_
                      have BK418 := n9_
                      have HB := n10_
                      clear n0_ n1_ n2_ n3_ n4_ n5_ n6_ n7_ n8_ n9_ n10_
                      (try clear hb)
                      (try clear hb2)
                      (try clear hk)
                      (try clear hi)
                      (try clear ho0)
                      obtain ⟨Ao65, co65, eo65⟩ := Kd.R_slice HO425.out
                      (first | subst eo65 | (injection eo65 with f1_ f2_ f3_; have f4_ := f1_.symm; have f5_ := f3_.symm; clear f1_ f2_ f3_; subst f4_; subst f5_))
                      obtain ⟨Ao66, co66, eo66⟩ := Kd.R_slice HO434.out
                      (first | subst eo66 | (injection eo66 with f1_ f2_ f3_; have f4_ := f1_.symm; have f5_ := f3_.symm; clear f1_ f2_ f3_; subst f4_; subst f5_))
                      refine hK.out _ _ ⟨(blk_cell BK404.out 0).trans rfl, (blk_cell BK404.out 1).trans rfl, (blk_cell BK413.out 0).trans rfl, (blk_cell BK413.out 1).trans rfl, (blk_cell BK418.out 0).trans rfl, (blk_cell BK418.out 1).trans rfl⟩ (fun hHeld => ?_)
                      clear hK K
                      refine norm_ (a' := ?_) ?_ ?_
                      rotate_left
                      · show Act.put _ (some 79) _ = _
                        simp only [Act.put, List.setIfInBounds_toArray, List.set_cons_zero, List.set_cons_succ, i64_w, i32_w]
                        rfl
                      refine one_ (i := 25) (N := some 80) #[true, true, true, true, true, true, true, true, true, true, true, true, true, true, true, true, true, true, true, true, true, true, true, true, true, true, false, false, false, false, false, false, false, false, false, false, false, false, false, false, false, false, false, false, false, false, false, false, false, false, false, false] rfl rfl (one_of HT_.out (by kernel_rfl)) (by decide) (fun K hK => ?_)
                      refine goes_ Try.func31 (by kernel_rfl) rfl #[.slice Ao65 t423.length co65, .slice Ao66 t432.length co66] (by rfl) rfl rfl (by (try simp only [List.map_toArray, List.map_cons, List.map_nil]); first | done | rfl | (simp only [List.length_drop, List.length_take]; rfl)) ?_
                      with_reducible refine (laws_lwNums.calls kj2 _ _ t423 _ _ t432 true _ ?side1 ?side2 ?side3 ?side4 A44.out).mono ?_
                      (case side1 => repeat (first | exact (Kd.R_reads' HO425.out).2.2 | (with_reducible refine Kd.C_alloc ?_ _) | (with_reducible refine Kd.C_drewN ?_ _) | (with_reducible refine Kd.C_drew ?_)))
                      (case side2 => exact (Kd.R_reads' HO425.out).2.1)
                      (case side3 => repeat (first | exact (Kd.R_reads' HO434.out).2.2 | (with_reducible refine Kd.C_alloc ?_ _) | (with_reducible refine Kd.C_drewN ?_ _) | (with_reducible refine Kd.C_drew ?_)))
                      (case side4 => exact (Kd.R_reads' HO434.out).2.1)
                      rintro e w' ⟨rfl, ⟨nd, rfl⟩⟩
                      refine ⟨_, rfl, ?_⟩
                      refine hK.out _ _ ⟨(blk_cell BK404.out 0).trans rfl, (blk_cell BK404.out 1).trans rfl, (blk_cell BK413.out 0).trans rfl, (blk_cell BK413.out 1).trans rfl, (blk_cell BK418.out 0).trans rfl, (blk_cell BK418.out 1).trans rfl⟩ (fun hHeld => ?_)
                      clear hK K
                      refine norm_ (a' := ?_) ?_ ?_
                      rotate_left
                      · show Act.put _ (some 80) _ = _
                        simp only [Act.put, List.setIfInBounds_toArray, List.set_cons_zero, List.set_cons_succ, i64_w, i32_w]
                        rfl
                      refine pure_ (i := 26) (N := some 81) (v := ?_) (a' := ?_) #[true, true, true, true, true, true, true, true, true, true, true, true, true, true, true, true, true, true, true, true, true, true, true, true, true, true, true, false, false, false, false, false, false, false, false, false, false, false, false, false, false, false, false, false, false, false, false, false, false, false, false, false] rfl rfl (any_of HT_.out (by kernel_rfl)) (fun _ _ _ h => h) (Or.inl ⟨by rfl, ?_⟩) ?_ ?_
                      rotate_left
                      · intro w'
                        go_simp
                        with_reducible rfl
                      rotate_left
                      · simp only [Act.put, List.setIfInBounds_toArray, List.set_cons_zero, List.set_cons_succ, i64_w, i32_w]
                        rfl
                      refine pure_ (i := 27) (N := some 82) (v := ?_) (a' := ?_) #[true, true, true, true, true, true, true, true, true, true, true, true, true, true, true, true, true, true, true, true, true, true, true, true, true, true, true, true, false, false, false, false, false, false, false, false, false, false, false, false, false, false, false, false, false, false, false, false, false, false, false, false] rfl rfl (any_of HT_.out (by kernel_rfl)) (fun _ _ _ h => h) (Or.inl ⟨by rfl, ?_⟩) ?_ ?_
                      rotate_left
                      · intro w'
                        go_simp
                        with_reducible rfl
                      rotate_left
                      · simp only [Act.put, List.setIfInBounds_toArray, List.set_cons_zero, List.set_cons_succ, i64_w, i32_w]
                        rfl
                      refine pure_ (i := 28) (N := some 83) (v := ?_) (a' := ?_) #[true, true, true, true, true, true, true, true, true, true, true, true, true, true, true, true, true, true, true, true, true, true, true, true, true, true, true, true, true, false, false, false, false, false, false, false, false, false, false, false, false, false, false, false, false, false, false, false, false, false, false, false] rfl rfl (any_of HT_.out (by kernel_rfl)) (fun _ _ _ h => h) (Or.inl ⟨by rfl, ?_⟩) ?_ ?_
                      rotate_left
                      · intro w'
                        go_simp
                        with_reducible rfl
                      rotate_left
                      · simp only [Act.put, List.setIfInBounds_toArray, List.set_cons_zero, List.set_cons_succ, i64_w, i32_w]
                        rfl
                      refine pure_ (i := 29) (N := some 84) (v := ?_) (a' := ?_) #[true, true, true, true, true, true, true, true, true, true, true, true, true, true, true, true, true, true, true, true, true, true, true, true, true, true, true, true, true, true, false, false, false, false, false, false, false, false, false, false, false, false, false, false, false, false, false, false, false, false, false, false] rfl rfl (any_of HT_.out (by kernel_rfl)) (fun _ _ _ h => h) (Or.inl ⟨by rfl, ?_⟩) ?_ ?_
                      rotate_left
                      · intro w'
                        go_simp
                        with_reducible rfl
                      rotate_left
                      · simp only [Act.put, List.setIfInBounds_toArray, List.set_cons_zero, List.set_cons_succ, i64_w, i32_w]
                        rfl
                      refine pure_ (i := 30) (N := some 85) (v := ?_) (a' := ?_) #[true, true, true, true, true, true, true, true, true, true, true, true, true, true, true, true, true, true, true, true, true, true, true, true, true, true, true, true, true, true, true, false, false, false, false, false, false, false, false, false, false, false, false, false, false, false, false, false, false, false, false, false] rfl rfl (any_of HT_.out (by kernel_rfl)) (fun _ _ _ h => h) (Or.inl ⟨by rfl, ?_⟩) ?_ ?_
                      rotate_left
                      · intro w'
                        go_simp
                        with_reducible rfl
                      rotate_left
                      · simp only [Act.put, List.setIfInBounds_toArray, List.set_cons_zero, List.set_cons_succ, i64_w, i32_w]
                        rfl
                      refine pure_ (i := 31) (N := some 86) (v := ?_) (a' := ?_) #[true, true, true, true, true, true, true, true, true, true, true, true, true, true, true, true, true, true, true, true, true, true, true, true, true, true, true, true, true, true, true, true, false, false, false, false, false, false, false, false, false, false, false, false, false, false, false, false, false, false, false, false] rfl rfl (any_of HT_.out (by kernel_rfl)) (fun _ _ _ h => h) (Or.inl ⟨by rfl, ?_⟩) ?_ ?_
                      rotate_left
                      · intro w'
                        go_simp
                        with_reducible rfl
                      rotate_left
                      · simp only [Act.put, List.setIfInBounds_toArray, List.set_cons_zero, List.set_cons_succ, i64_w, i32_w]
                        rfl
                      refine one_ (i := 32) (N := some 87) #[true, true, true, true, true, true, true, true, true, true, true, true, true, true, true, true, true, true, true, true, true, true, true, true, true, true, true, true, true, true, true, true, true, false, false, false, false, false, false, false, false, false, false, false, false, false, false, false, false, false, false, false] rfl rfl (one_of HT_.out (by kernel_rfl)) (by decide) (fun K hK => ?_)
                      refine goes_ Try.func45 (by kernel_rfl) rfl #[.slice Ao33 t419.length co33, .int .i64 t420] (by rfl) rfl rfl (by (try simp only [List.map_toArray, List.map_cons, List.map_nil]); first | done | rfl | (simp only [List.length_drop, List.length_take]; rfl)) ?_
                      with_reducible refine (spec_SetDrop.calls kj2 _ _ t419 t420 t436 _ ?side1 ?side2 A46.out).mono ?_
                      (case side1 => repeat (first | exact (Kd.R_reads' HO422.out).2.2 | (with_reducible refine Kd.C_alloc ?_ _) | (with_reducible refine Kd.C_drewN ?_ _) | (with_reducible refine Kd.C_drew ?_)))
                      (case side2 => exact (Kd.R_reads' HO422.out).2.1)
                      rintro e w67 ⟨v437, rfl, ho0, hb⟩
                      refine ⟨_, rfl, ?_⟩
                      have n0_ := Aside0.mk (Kd.R_elder' (by (with_reducible repeat (first | apply Kd.R_alloc | apply Kd.R_drewN | apply Kd.R_drew)); exact HO408.out) (Kd.R_base ho0) hb)
                      have n1_ := Aside0.mk (Kd.R_elder' (by (with_reducible repeat (first | apply Kd.R_alloc | apply Kd.R_drewN | apply Kd.R_drew)); exact HO412.out) (Kd.R_base ho0) hb)
                      have n2_ := Aside0.mk (Kd.R_elder' (by (with_reducible repeat (first | apply Kd.R_alloc | apply Kd.R_drewN | apply Kd.R_drew)); exact HO417.out) (Kd.R_base ho0) hb)
                      have n3_ := Aside0.mk (Kd.R_elder' (by (with_reducible repeat (first | apply Kd.R_alloc | apply Kd.R_drewN | apply Kd.R_drew)); exact HO422.out) (Kd.R_base ho0) hb)
                      have n4_ := Aside0.mk (Kd.R_elder' (by (with_reducible repeat (first | apply Kd.R_alloc | apply Kd.R_drewN | apply Kd.R_drew)); exact HO425.out) (Kd.R_base ho0) hb)
                      have n5_ := Aside0.mk (Kd.R_elder' (by (with_reducible repeat (first | apply Kd.R_alloc | apply Kd.R_drewN | apply Kd.R_drew)); exact HO428.out) (Kd.R_base ho0) hb)
                      have n6_ := Aside0.mk (Kd.R_elder' (by (with_reducible repeat (first | apply Kd.R_alloc | apply Kd.R_drewN | apply Kd.R_drew)); exact HO434.out) (Kd.R_base ho0) hb)
                      have n7_ := Aside0.mk (Kd.R_lower (Kd.R_new' (Kd.R_new' (Kd.R_new' (Kd.R_new' (Kd.R_new' (Kd.R_new' (Kd.R_new' ho0 (Kd.R_lt (by (with_reducible repeat (first | apply Kd.R_alloc | apply Kd.R_drewN | apply Kd.R_drew)); exact HO408.out))) (Kd.R_lt (by (with_reducible repeat (first | apply Kd.R_alloc | apply Kd.R_drewN | apply Kd.R_drew)); exact HO412.out))) (Kd.R_lt (by (with_reducible repeat (first | apply Kd.R_alloc | apply Kd.R_drewN | apply Kd.R_drew)); exact HO417.out))) (Kd.R_lt (by (with_reducible repeat (first | apply Kd.R_alloc | apply Kd.R_drewN | apply Kd.R_drew)); exact HO422.out))) (Kd.R_lt (by (with_reducible repeat (first | apply Kd.R_alloc | apply Kd.R_drewN | apply Kd.R_drew)); exact HO425.out))) (Kd.R_lt (by (with_reducible repeat (first | apply Kd.R_alloc | apply Kd.R_drewN | apply Kd.R_drew)); exact HO428.out))) (Kd.R_lt (by (with_reducible repeat (first | apply Kd.R_alloc | apply Kd.R_drewN | apply Kd.R_drew)); exact HO434.out))) (below_size (by repeat (first | (with_reducible first | exact HB.out | apply below_alloc | apply pw_below_drewN | apply below_drew1 | refine below_set ?_ GE404.out | refine below_set ?_ GE413.out | refine below_set ?_ GE418.out) | exact HB.out))))
                      have n8_ := Aside0.mk (blk_below (g := gb404) (o := .cells #[.int .i64 t402, .int .i64 t403] 60 (0, 0)) (by (with_reducible repeat (first | refine blk_drewN ?_ _ | refine blk_drew ?_ | refine blk_alloc ?_ _)); exact BK404.out) hb)
                      have n9_ := Aside0.mk (blk_below (g := gb413) (o := .cells #[.int .i64 t409, .slice Ao25 t410.length co25] 51 (0, 0)) (by (with_reducible repeat (first | refine blk_drewN ?_ _ | refine blk_drew ?_ | refine blk_alloc ?_ _)); exact BK413.out) hb)
                      have n10_ := Aside0.mk (blk_below (g := gb418) (o := .cells #[.int .i64 t414, .slice Ao31 t415.length co31] 51 (0, 0)) (by (with_reducible repeat (first | refine blk_drewN ?_ _ | refine blk_drew ?_ | refine blk_alloc ?_ _)); exact BK418.out) hb)
                      have n11_ := Aside0.mk (below_step (by repeat (first | (with_reducible first | exact HB.out | apply below_alloc | apply pw_below_drewN | apply below_drew1 | refine below_set ?_ GE404.out | refine below_set ?_ GE413.out | refine below_set ?_ GE418.out) | exact HB.out)) hb)
                      clear HO408
                      clear HO412
                      clear HO417
                      clear HO422
                      clear HO425
                      clear HO428
                      clear HO434
                      clear BK404
                      clear BK413
                      clear BK418
                      clear HB
                      have HO408 := n0_
                      have HO412 := n1_
                      have HO417 := n2_
                      have HO422 := n3_
                      have HO425 := n4_
                      have HO428 := n5_
                      have HO434 := n6_
                      have HO438 := n7_
                      have BK404 := n8_
                      have BK413 := n9_
                      have BK418 := n10_
                      have HB := n11_
                      clear n0_ n1_ n2_ n3_ n4_ n5_ n6_ n7_ n8_ n9_ n10_ n11_
                      (try clear hb)
                      (try clear hb2)
                      (try clear hk)
                      (try clear hi)
                      (try clear ho0)
                      obtain ⟨Ao68, co68, eo68⟩ := Kd.R_slice HO428.out
                      (first | subst eo68 | (injection eo68 with f1_ f2_ f3_; have f4_ := f1_.symm; have f5_ := f3_.symm; clear f1_ f2_ f3_; subst f4_; subst f5_))
                      obtain ⟨Ao69, co69, eo69⟩ := Kd.R_slice HO438.out
                      (first | subst eo69 | (injection eo69 with f1_ f2_ f3_; have f4_ := f1_.symm; have f5_ := f3_.symm; clear f1_ f2_ f3_; subst f4_; subst f5_))
                      refine hK.out _ _ ⟨(blk_cell BK404.out 0).trans rfl, (blk_cell BK404.out 1).trans rfl, (blk_cell BK413.out 0).trans rfl, (blk_cell BK413.out 1).trans rfl, (blk_cell BK418.out 0).trans rfl, (blk_cell BK418.out 1).trans rfl⟩ (fun hHeld => ?_)
                      clear hK K
                      refine norm_ (a' := ?_) ?_ ?_
                      rotate_left
                      · show Act.put _ (some 87) _ = _
                        simp only [Act.put, List.setIfInBounds_toArray, List.set_cons_zero, List.set_cons_succ, i64_w, i32_w]
                        rfl
                      refine one_ (i := 33) (N := some 88) #[true, true, true, true, true, true, true, true, true, true, true, true, true, true, true, true, true, true, true, true, true, true, true, true, true, true, true, true, true, true, true, true, true, true, false, false, false, false, false, false, false, false, false, false, false, false, false, false, false, false, false, false] rfl rfl (one_of HT_.out (by kernel_rfl)) (by decide) (fun K hK => ?_)
                      refine goes_ Try.func31 (by kernel_rfl) rfl #[.slice Ao68 t426.length co68, .slice Ao69 t436.length co69] (by rfl) rfl rfl (by (try simp only [List.map_toArray, List.map_cons, List.map_nil]); first | done | rfl | (simp only [List.length_drop, List.length_take]; rfl)) ?_
                      with_reducible refine (laws_lwNums.calls kj2 _ _ t426 _ _ t436 true _ ?side1 ?side2 ?side3 ?side4 A47.out).mono ?_
                      (case side1 => repeat (first | exact (Kd.R_reads' HO428.out).2.2 | (with_reducible refine Kd.C_alloc ?_ _) | (with_reducible refine Kd.C_drewN ?_ _) | (with_reducible refine Kd.C_drew ?_)))
                      (case side2 => exact (Kd.R_reads' HO428.out).2.1)
                      (case side3 => repeat (first | exact (Kd.R_reads' HO438.out).2.2 | (with_reducible refine Kd.C_alloc ?_ _) | (with_reducible refine Kd.C_drewN ?_ _) | (with_reducible refine Kd.C_drew ?_)))
                      (case side4 => exact (Kd.R_reads' HO438.out).2.1)
                      rintro e w' ⟨rfl, ⟨nd, rfl⟩⟩
                      refine ⟨_, rfl, ?_⟩
                      refine hK.out _ _ ⟨(blk_cell BK404.out 0).trans rfl, (blk_cell BK404.out 1).trans rfl, (blk_cell BK413.out 0).trans rfl, (blk_cell BK413.out 1).trans rfl, (blk_cell BK418.out 0).trans rfl, (blk_cell BK418.out 1).trans rfl⟩ (fun hHeld => ?_)
                      clear hK K
                      refine norm_ (a' := ?_) ?_ ?_
                      rotate_left
                      · show Act.put _ (some 88) _ = _
                        simp only [Act.put, List.setIfInBounds_toArray, List.set_cons_zero, List.set_cons_succ, i64_w, i32_w]
                        rfl
                      refine pure_ (i := 34) (N := some 89) (v := ?_) (a' := ?_) #[true, true, true, true, true, true, true, true, true, true, true, true, true, true, true, true, true, true, true, true, true, true, true, true, true, true, true, true, true, true, true, true, true, true, true, false, false, false, false, false, false, false, false, false, false, false, false, false, false, false, false, false] rfl rfl (any_of HT_.out (by kernel_rfl)) (fun _ _ _ h => h) (Or.inl ⟨by rfl, ?_⟩) ?_ ?_
                      rotate_left
                      · intro w'
                        go_simp
                        with_reducible rfl
                      rotate_left
                      · simp only [Act.put, List.setIfInBounds_toArray, List.set_cons_zero, List.set_cons_succ, i64_w, i32_w]
                        rfl
                      refine pure_ (i := 35) (N := some 90) (v := ?_) (a' := ?_) #[true, true, true, true, true, true, true, true, true, true, true, true, true, true, true, true, true, true, true, true, true, true, true, true, true, true, true, true, true, true, true, true, true, true, true, true, false, false, false, false, false, false, false, false, false, false, false, false, false, false, false, false] rfl rfl (any_of HT_.out (by kernel_rfl)) (fun _ _ _ h => h) (Or.inl ⟨by rfl, ?_⟩) ?_ ?_
                      rotate_left
                      · intro w'
                        go_simp
                        with_reducible rfl
                      rotate_left
                      · simp only [Act.put, List.setIfInBounds_toArray, List.set_cons_zero, List.set_cons_succ, i64_w, i32_w]
                        rfl
                      refine pure_ (i := 36) (N := some 91) (v := ?_) (a' := ?_) #[true, true, true, true, true, true, true, true, true, true, true, true, true, true, true, true, true, true, true, true, true, true, true, true, true, true, true, true, true, true, true, true, true, true, true, true, true, false, false, false, false, false, false, false, false, false, false, false, false, false, false, false] rfl rfl (any_of HT_.out (by kernel_rfl)) (fun _ _ _ h => h) (Or.inl ⟨by rfl, ?_⟩) ?_ ?_
                      rotate_left
                      · intro w'
                        go_simp
                        with_reducible rfl
                      rotate_left
                      · simp only [Act.put, List.setIfInBounds_toArray, List.set_cons_zero, List.set_cons_succ, i64_w, i32_w]
                        rfl
                      refine pure_ (i := 37) (N := some 92) (v := ?_) (a' := ?_) #[true, true, true, true, true, true, true, true, true, true, true, true, true, true, true, true, true, true, true, true, true, true, true, true, true, true, true, true, true, true, true, true, true, true, true, true, true, true, false, false, false, false, false, false, false, false, false, false, false, false, false, false] rfl rfl (any_of HT_.out (by kernel_rfl)) (fun _ _ _ h => h) (Or.inl ⟨by rfl, ?_⟩) ?_ ?_
                      rotate_left
                      · intro w'
                        go_simp
                        with_reducible rfl
                      rotate_left
                      · simp only [Act.put, List.setIfInBounds_toArray, List.set_cons_zero, List.set_cons_succ, i64_w, i32_w]
                        rfl
                      refine pure_ (i := 38) (N := some 93) (v := ?_) (a' := ?_) #[true, true, true, true, true, true, true, true, true, true, true, true, true, true, true, true, true, true, true, true, true, true, true, true, true, true, true, true, true, true, true, true, true, true, true, true, true, true, true, false, false, false, false, false, false, false, false, false, false, false, false, false] rfl rfl (any_of HT_.out (by kernel_rfl)) (fun _ _ _ h => h) (Or.inl ⟨by rfl, ?_⟩) ?_ ?_
                      rotate_left
                      · intro w'
                        go_simp
                        with_reducible rfl
                      rotate_left
                      · simp only [Act.put, List.setIfInBounds_toArray, List.set_cons_zero, List.set_cons_succ, i64_w, i32_w]
                        rfl
                      refine pure_ (i := 40) (N := some 95) (v := ?_) (a' := ?_) #[true, true, true, true, true, true, true, true, true, true, true, true, true, true, true, true, true, true, true, true, true, true, true, true, true, true, true, true, true, true, true, true, true, true, true, true, true, true, true, false, true, false, false, false, false, false, false, false, false, false, false, false] rfl rfl (any_of HT_.out (by kernel_rfl)) (fun _ _ _ h => h) (Or.inl ⟨by rfl, ?_⟩) ?_ ?_
                      rotate_left
                      · intro w'
                        go_simp
                        with_reducible rfl
                      rotate_left
                      · simp only [Act.put, List.setIfInBounds_toArray, List.set_cons_zero, List.set_cons_succ, i64_w, i32_w]
                        rfl
                      refine pure_ (i := 41) (N := some 96) (v := ?_) (a' := ?_) #[true, true, true, true, true, true, true, true, true, true, true, true, true, true, true, true, true, true, true, true, true, true, true, true, true, true, true, true, true, true, true, true, true, true, true, true, true, true, true, false, true, true, false, false, false, false, false, false, false, false, false, false] rfl rfl (any_of HT_.out (by kernel_rfl)) (fun _ _ _ h => h) (Or.inl ⟨by rfl, ?_⟩) ?_ ?_
                      rotate_left
                      · intro w'
                        go_simp
                        with_reducible rfl
                      rotate_left
                      · simp only [Act.put, List.setIfInBounds_toArray, List.set_cons_zero, List.set_cons_succ, i64_w, i32_w]
                        rfl
                      refine one_ (i := 39) (N := some 94) #[true, true, true, true, true, true, true, true, true, true, true, true, true, true, true, true, true, true, true, true, true, true, true, true, true, true, true, true, true, true, true, true, true, true, true, true, true, true, true, true, true, true, false, false, false, false, false, false, false, false, false, false] rfl rfl (one_of HT_.out (by kernel_rfl)) (by decide) (fun K hK => ?_)
                      refine goes_ Try.func46 (by kernel_rfl) rfl #[.slice Ao33 t419.length co33, .int .i64 t420] (by rfl) rfl rfl (by (try simp only [List.map_toArray, List.map_cons, List.map_nil]); first | done | rfl | (simp only [List.length_drop, List.length_take]; rfl)) ?_
                      with_reducible refine (impl_SetHas.calls kj2 _ _ t419 t420 t440 _ ?side1 ?side2 A49.out).mono ?_
                      (case side1 => repeat (first | exact (Kd.R_reads' HO422.out).2.2 | (with_reducible refine Kd.C_alloc ?_ _) | (with_reducible refine Kd.C_drewN ?_ _) | (with_reducible refine Kd.C_drew ?_)))
                      (case side2 => exact (Kd.R_reads' HO422.out).2.1)
                      rintro e w' ⟨rfl, ⟨nd, rfl⟩⟩
                      refine ⟨_, rfl, ?_⟩
                      refine hK.out _ _ ⟨(blk_cell BK404.out 0).trans rfl, (blk_cell BK404.out 1).trans rfl, (blk_cell BK413.out 0).trans rfl, (blk_cell BK413.out 1).trans rfl, (blk_cell BK418.out 0).trans rfl, (blk_cell BK418.out 1).trans rfl⟩ (fun hHeld => ?_)
                      clear hK K
                      refine norm_ (a' := ?_) ?_ ?_
                      rotate_left
                      · show Act.put _ (some 94) _ = _
                        simp only [Act.put, List.setIfInBounds_toArray, List.set_cons_zero, List.set_cons_succ, i64_w, i32_w]
                        rfl
                      refine one_ (i := 42) (N := some 97) #[true, true, true, true, true, true, true, true, true, true, true, true, true, true, true, true, true, true, true, true, true, true, true, true, true, true, true, true, true, true, true, true, true, true, true, true, true, true, true, true, true, true, true, false, false, false, false, false, false, false, false, false] rfl rfl (one_of HT_.out (by kernel_rfl)) (by decide) (fun K hK => ?_)
                      refine goes_ Try.func47 (by kernel_rfl) rfl #[.slice Ao33 t419.length co33, .int .i64 t420] (by rfl) rfl rfl (by (try simp only [List.map_toArray, List.map_cons, List.map_nil]); first | done | rfl | (simp only [List.length_drop, List.length_take]; rfl)) ?_
                      with_reducible refine (spec_SetHas.calls kj2 _ _ t419 t420 t441 _ ?side1 ?side2 A50.out).mono ?_
                      (case side1 => repeat (first | exact (Kd.R_reads' HO422.out).2.2 | (with_reducible refine Kd.C_alloc ?_ _) | (with_reducible refine Kd.C_drewN ?_ _) | (with_reducible refine Kd.C_drew ?_)))
                      (case side2 => exact (Kd.R_reads' HO422.out).2.1)
                      rintro e w' ⟨rfl, ⟨nd, rfl⟩⟩
                      refine ⟨_, rfl, ?_⟩
                      refine hK.out _ _ ⟨(blk_cell BK404.out 0).trans rfl, (blk_cell BK404.out 1).trans rfl, (blk_cell BK413.out 0).trans rfl, (blk_cell BK413.out 1).trans rfl, (blk_cell BK418.out 0).trans rfl, (blk_cell BK418.out 1).trans rfl⟩ (fun hHeld => ?_)
                      clear hK K
                      refine norm_ (a' := ?_) ?_ ?_
                      rotate_left
                      · show Act.put _ (some 97) _ = _
                        simp only [Act.put, List.setIfInBounds_toArray, List.set_cons_zero, List.set_cons_succ, i64_w, i32_w]
                        rfl
                      refine pure_ (i := 43) (N := some 98) (v := ?_) (a' := ?_) #[true, true, true, true, true, true, true, true, true, true, true, true, true, true, true, true, true, true, true, true, true, true, true, true, true, true, true, true, true, true, true, true, true, true, true, true, true, true, true, true, true, true, true, true, false, false, false, false, false, false, false, false] rfl rfl (any_of HT_.out (by kernel_rfl)) (fun _ _ _ h => h) (Or.inl ⟨by rfl, ?_⟩) ?_ ?_
                      rotate_left
                      · intro w'
                        go_simp
                        with_reducible rfl
                      rotate_left
                      · simp only [Act.put, List.setIfInBounds_toArray, List.set_cons_zero, List.set_cons_succ, i64_w, i32_w]
                        rfl
                      refine pure_ (i := 44) (N := some 99) (v := ?_) (a' := ?_) #[true, true, true, true, true, true, true, true, true, true, true, true, true, true, true, true, true, true, true, true, true, true, true, true, true, true, true, true, true, true, true, true, true, true, true, true, true, true, true, true, true, true, true, true, true, false, false, false, false, false, false, false] rfl rfl (any_of HT_.out (by kernel_rfl)) (fun _ _ _ h => h) (Or.inl ⟨by rfl, ?_⟩) ?_ ?_
                      rotate_left
                      · intro w'
                        go_simp
                        with_reducible rfl
                      rotate_left
                      · simp only [Act.put, List.setIfInBounds_toArray, List.set_cons_zero, List.set_cons_succ, i64_w, i32_w]
                        rfl
                      refine pure_ (i := 45) (N := some 100) (v := ?_) (a' := ?_) #[true, true, true, true, true, true, true, true, true, true, true, true, true, true, true, true, true, true, true, true, true, true, true, true, true, true, true, true, true, true, true, true, true, true, true, true, true, true, true, true, true, true, true, true, true, true, false, false, false, false, false, false] rfl rfl (any_of HT_.out (by kernel_rfl)) (fun _ _ _ h => h) (Or.inl ⟨by rfl, ?_⟩) ?_ ?_
                      rotate_left
                      · intro w'
                        go_simp
                        with_reducible rfl
                      rotate_left
                      · simp only [Act.put, List.setIfInBounds_toArray, List.set_cons_zero, List.set_cons_succ, i64_w, i32_w]
                        rfl
                      refine pure_ (i := 46) (N := some 101) (v := ?_) (a' := ?_) #[true, true, true, true, true, true, true, true, true, true, true, true, true, true, true, true, true, true, true, true, true, true, true, true, true, true, true, true, true, true, true, true, true, true, true, true, true, true, true, true, true, true, true, true, true, true, true, false, false, false, false, false] rfl rfl (any_of HT_.out (by kernel_rfl)) (fun _ _ _ h => h) (Or.inl ⟨by rfl, ?_⟩) ?_ ?_
                      rotate_left
                      · intro w'
                        go_simp
                        with_reducible rfl
                      rotate_left
                      · simp only [Act.put, List.setIfInBounds_toArray, List.set_cons_zero, List.set_cons_succ, i64_w, i32_w]
                        rfl
                      refine pure_ (i := 48) (N := some 103) (v := ?_) (a' := ?_) #[true, true, true, true, true, true, true, true, true, true, true, true, true, true, true, true, true, true, true, true, true, true, true, true, true, true, true, true, true, true, true, true, true, true, true, true, true, true, true, true, true, true, true, true, true, true, true, false, true, false, false, false] rfl rfl (any_of HT_.out (by kernel_rfl)) (fun _ _ _ h => h) (Or.inl ⟨by rfl, ?_⟩) ?_ ?_
                      rotate_left
                      · intro w'
                        go_simp
                        with_reducible rfl
                      rotate_left
                      · simp only [Act.put, List.setIfInBounds_toArray, List.set_cons_zero, List.set_cons_succ, i64_w, i32_w]
                        rfl
                      refine one_ (i := 47) (N := some 102) #[true, true, true, true, true, true, true, true, true, true, true, true, true, true, true, true, true, true, true, true, true, true, true, true, true, true, true, true, true, true, true, true, true, true, true, true, true, true, true, true, true, true, true, true, true, true, true, true, true, false, false, false] rfl rfl (one_of HT_.out (by kernel_rfl)) (by decide) (fun K hK => ?_)
                      refine goes_ Try.func48 (by kernel_rfl) rfl #[.slice Ao33 t419.length co33] (by rfl) rfl rfl (by (try simp only [List.map_toArray, List.map_cons, List.map_nil]); first | done | rfl | (simp only [List.length_drop, List.length_take]; rfl)) ?_
                      with_reducible refine (impl_SetRight.calls kj2 _ _ t419 t442 _ ?side1 ?side2 A60.out).mono ?_
                      (case side1 => repeat (first | exact (Kd.R_reads' HO422.out).2.2 | (with_reducible refine Kd.C_alloc ?_ _) | (with_reducible refine Kd.C_drewN ?_ _) | (with_reducible refine Kd.C_drew ?_)))
                      (case side2 => exact (Kd.R_reads' HO422.out).2.1)
                      rintro e w' ⟨rfl, ⟨nd, rfl⟩⟩
                      refine ⟨_, rfl, ?_⟩
                      refine hK.out _ _ ⟨(blk_cell BK404.out 0).trans rfl, (blk_cell BK404.out 1).trans rfl, (blk_cell BK413.out 0).trans rfl, (blk_cell BK413.out 1).trans rfl, (blk_cell BK418.out 0).trans rfl, (blk_cell BK418.out 1).trans rfl⟩ (fun hHeld => ?_)
                      clear hK K
                      refine norm_ (a' := ?_) ?_ ?_
                      rotate_left
                      · show Act.put _ (some 102) _ = _
                        simp only [Act.put, List.setIfInBounds_toArray, List.set_cons_zero, List.set_cons_succ, i64_w, i32_w]
                        rfl
                      refine one_ (i := 49) (N := some 104) #[true, true, true, true, true, true, true, true, true, true, true, true, true, true, true, true, true, true, true, true, true, true, true, true, true, true, true, true, true, true, true, true, true, true, true, true, true, true, true, true, true, true, true, true, true, true, true, true, true, true, false, false] rfl rfl (one_of HT_.out (by kernel_rfl)) (by decide) (fun K hK => ?_)
                      refine goes_ Try.func49 (by kernel_rfl) rfl #[.slice Ao33 t419.length co33] (by rfl) rfl rfl (by (try simp only [List.map_toArray, List.map_cons, List.map_nil]); first | done | rfl | (simp only [List.length_drop, List.length_take]; rfl)) ?_
                      with_reducible refine (spec_SetRight.calls kj2 _ _ t419 t443 _ ?side1 ?side2 A61.out).mono ?_
                      (case side1 => repeat (first | exact (Kd.R_reads' HO422.out).2.2 | (with_reducible refine Kd.C_alloc ?_ _) | (with_reducible refine Kd.C_drewN ?_ _) | (with_reducible refine Kd.C_drew ?_)))
                      (case side2 => exact (Kd.R_reads' HO422.out).2.1)
                      rintro e w' ⟨rfl, ⟨nd, rfl⟩⟩
                      refine ⟨_, rfl, ?_⟩
                      refine hK.out _ _ ⟨(blk_cell BK404.out 0).trans rfl, (blk_cell BK404.out 1).trans rfl, (blk_cell BK413.out 0).trans rfl, (blk_cell BK413.out 1).trans rfl, (blk_cell BK418.out 0).trans rfl, (blk_cell BK418.out 1).trans rfl⟩ (fun hHeld => ?_)
                      clear hK K
                      refine norm_ (a' := ?_) ?_ ?_
                      rotate_left
                      · show Act.put _ (some 104) _ = _
                        simp only [Act.put, List.setIfInBounds_toArray, List.set_cons_zero, List.set_cons_succ, i64_w, i32_w]
                        rfl
                      refine pure_ (i := 50) (N := some 105) (v := ?_) (a' := ?_) #[true, true, true, true, true, true, true, true, true, true, true, true, true, true, true, true, true, true, true, true, true, true, true, true, true, true, true, true, true, true, true, true, true, true, true, true, true, true, true, true, true, true, true, true, true, true, true, true, true, true, true, false] rfl rfl (any_of HT_.out (by kernel_rfl)) (fun _ _ _ h => h) (Or.inl ⟨by rfl, ?_⟩) ?_ ?_
                      rotate_left
                      · intro w'
                        go_simp
                        with_reducible rfl
                      rotate_left
                      · simp only [Act.put, List.setIfInBounds_toArray, List.set_cons_zero, List.set_cons_succ, i64_w, i32_w]
                        rfl
                      refine pure_ (i := 51) (N := some 106) (v := ?_) (a' := ?_) #[true, true, true, true, true, true, true, true, true, true, true, true, true, true, true, true, true, true, true, true, true, true, true, true, true, true, true, true, true, true, true, true, true, true, true, true, true, true, true, true, true, true, true, true, true, true, true, true, true, true, true, true] rfl rfl (any_of HT_.out (by kernel_rfl)) (fun _ _ _ h => h) (Or.inl ⟨by rfl, ?_⟩) ?_ ?_
                      rotate_left
                      · intro w'
                        go_simp
                        with_reducible rfl
                      rotate_left
                      · simp only [Act.put, List.setIfInBounds_toArray, List.set_cons_zero, List.set_cons_succ, i64_w, i32_w]
                        rfl
                      refine done_ (done_of HT_.out (by kernel_rfl)) ?_
                      try go_wp2
                      go_meet
                      case rel => exact ⟨_, ((t442 != t443)), (by first | rfl | (simp; done) | (simp [*]; done)), H', ⟨by have := HJ2.out; first | omega | exact Nat.le_refl _⟩, ⟨by (with_reducible repeat (first | apply Kd.R_alloc | apply Kd.R_drewN | apply Kd.R_drew)); exact Kd.R_mono HO408.out (fun _ hk => ⟨hk.1.1.1.1.2, ⟨hk.1.1.1.2, ⟨hk.1.1.2, ⟨hk.1.1.1.1.1.1.2, hk.1.1.1.1.1.2⟩⟩⟩⟩)⟩, ⟨by (with_reducible repeat (first | apply Kd.R_alloc | apply Kd.R_drewN | apply Kd.R_drew)); exact Kd.R_mono HO422.out (fun _ hk => ⟨hk.1.1.1.1.1.1.2, ⟨hk.1.1.1.2, ⟨hk.1.1.2, ⟨hk.1.1.1.1.1.2, hk.1.1.1.1.2⟩⟩⟩⟩)⟩, ⟨by (with_reducible repeat (first | apply Kd.R_alloc | apply Kd.R_drewN | apply Kd.R_drew)); exact Kd.R_mono HO425.out (fun _ hk => ⟨hk.1.1.1.1.1.1.2, ⟨hk.1.1.1.2, ⟨hk.1.1.2, ⟨hk.1.1.1.1.1.2, hk.1.1.1.1.2⟩⟩⟩⟩)⟩, ⟨by (with_reducible repeat (first | apply Kd.R_alloc | apply Kd.R_drewN | apply Kd.R_drew)); exact Kd.R_mono HO428.out (fun _ hk => ⟨hk.1.1.1.1.1.1.2, ⟨hk.1.1.1.2, ⟨hk.1.1.2, ⟨hk.1.1.1.1.1.2, hk.1.1.1.1.2⟩⟩⟩⟩)⟩, ⟨by (with_reducible repeat (first | apply Kd.R_alloc | apply Kd.R_drewN | apply Kd.R_drew)); exact Kd.R_mono HO412.out (fun _ hk => ⟨hk.1.1.1.1.1.1.2, ⟨hk.1.1.1.1.2, ⟨hk.1.1.1.2, ⟨hk.1.1.2, hk.1.1.1.1.1.2⟩⟩⟩⟩)⟩, ⟨by (with_reducible repeat (first | apply Kd.R_alloc | apply Kd.R_drewN | apply Kd.R_drew)); exact Kd.R_mono HO417.out (fun _ hk => ⟨hk.1.1.1.1.1.1.2, ⟨hk.1.1.1.1.2, ⟨hk.1.1.1.2, ⟨hk.1.1.2, hk.1.1.1.1.1.2⟩⟩⟩⟩)⟩, ⟨by (with_reducible repeat (first | refine blk_drewN ?_ _ | refine blk_drew ?_ | refine blk_alloc ?_ _)); exact BK404.out⟩, ⟨by (with_reducible repeat (first | refine blk_drewN ?_ _ | refine blk_drew ?_ | refine blk_alloc ?_ _)); exact BK413.out⟩, ⟨by (with_reducible repeat (first | refine blk_drewN ?_ _ | refine blk_drew ?_ | refine blk_alloc ?_ _)); exact BK418.out⟩, ⟨by repeat (first | (with_reducible first | exact HB.out | apply below_alloc | apply pw_below_drewN | apply below_drew1 | refine below_set ?_ GE404.out | refine below_set ?_ GE413.out | refine below_set ?_ GE418.out) | exact HB.out)⟩⟩
                  · replace c48 := Bool.eq_false_iff.mpr c48
                    subst c48
                    have H1 : (laws_FnChance.j1 kj2 t400 t401 t405 t406 t419 t420 t423 t426 true t402 t403 t409 t410) = some r := by rw [if_neg (show ¬ (false = true) by decide)] at H; exact H
                    clear H
                    have H := H1
                    clear H1
                    exact absurd (H.trans (congrArg some HT_.out)) (laws_FnChance.j1_no _ _ _ _ _ _ _ _ _ _ _ _ _)
                · replace c45 := Bool.eq_false_iff.mpr c45
                  subst c45
                  have H1 : (laws_FnChance.j1 kj2 t400 t401 t405 t406 t419 t420 t423 t426 true t402 t403 t409 t410) = some r := by rw [if_neg (show ¬ (false = true) by decide)] at H; exact H
                  clear H
                  have H := H1
                  clear H1
                  exact absurd (H.trans (congrArg some HT_.out)) (laws_FnChance.j1_no _ _ _ _ _ _ _ _ _ _ _ _ _)
              · replace c42 := Bool.eq_false_iff.mpr c42
                subst c42
                have H1 : (laws_FnChance.j1 kj2 t400 t401 t405 t406 t419 t420 t423 t426 true t402 t403 t409 t410) = some r := by rw [if_neg (show ¬ (false = true) by decide)] at H; exact H
                clear H
                have H := H1
                clear H1
                exact absurd (H.trans (congrArg some HT_.out)) (laws_FnChance.j1_no _ _ _ _ _ _ _ _ _ _ _ _ _)
            · rw [if_neg c40] at H
              have c40b0 : (t409 == t414) = false := beq_eq_false_iff_ne.mpr c40
              have c40b1 : (t409 != t414) = true := bne_iff_ne.mpr c40
              exact absurd (H.trans (congrArg some HT_.out)) (laws_FnChance.j1_no _ _ _ _ _ _ _ _ _ _ _ _ _)
        case rest =>
          as_aux_lemma =>
          clear HC14
          try clear p2
          try clear c3
          try clear c4
          try clear c31
          try clear c40
          try clear c40b0
          try clear c40b1
          try clear c43
          obtain ⟨kq, x106_13, rfl, HA, HJ13, HO_8, HO_12, HO_14, HO_15, HO_414001, HO_419001, BK404, BK413, BK418, HB⟩ := hcut
          cases kq with
          | zero => exact absurd HA.out (by simp [laws_FnChance.j1])
          | succ kj13 =>
            have H := HA.out
            clear HA
            simp only [laws_FnChance.j1] at H
            by_cases c87 : x106_13 = true
            · subst c87
              have H1 : (some false) = some r := by rw [if_pos rfl] at H; exact H
              clear H
              have H := H1
              clear H1
              exact absurd ((Option.some.inj H).trans HT_.out) (by decide)
            · replace c87 := Bool.eq_false_iff.mpr c87
              subst c87
              have H1 : (if t400 ≥ 0 then (if t400 ≤ 2147483647 then (if t401 ≥ 1 then (if t401 ≤ 1000000 then (if t403 < 0 then (laws_FnChance.j2 kj13 t405 t406 t419 t420 t423 t426 true t409 t410) else (if t403 ≥ t401 then (laws_FnChance.j2 kj13 t405 t406 t419 t420 t423 t426 true t409 t410) else (if t402 < 0 then (laws_FnChance.j2 kj13 t405 t406 t419 t420 t423 t426 true t409 t410) else (laws_FnChance.j2 kj13 t405 t406 t419 t420 t423 t426 (decide (t402 > 2147483647)) t409 t410)))) else (laws_FnChance.j2 kj13 t405 t406 t419 t420 t423 t426 false t409 t410)) else (laws_FnChance.j2 kj13 t405 t406 t419 t420 t423 t426 false t409 t410)) else (laws_FnChance.j2 kj13 t405 t406 t419 t420 t423 t426 false t409 t410)) else (laws_FnChance.j2 kj13 t405 t406 t419 t420 t423 t426 false t409 t410)) = some r := by rw [if_neg (show ¬ (false = true) by decide)] at H; exact H
              clear H
              have H := H1
              clear H1
              have HC88 := Aside0.mk H
              clear H
              go_upto_region 12 with (fail)
              go_cut [141] (fun v141 wc => ∃ (kq : Nat) (x141_87 : Bool), v141 = .bool x141_87 ∧ Aside0 (laws_FnChance.j2 kq t405 t406 t419 t420 t423 t426 x141_87 t409 t410 = some r) ∧ Aside0 (kq ≤ kj13) ∧ Aside0 (Kd.R (Kd.int .i64) 2 wc w.heap.size (fun k_ => some k_ ≠ ((.slice Ao33 t419.length co33) : Value).ownBlock ∧ some k_ ≠ (v424 : Value).ownBlock ∧ some k_ ≠ (v427 : Value).ownBlock ∧ some k_ ≠ ((.slice Ao25 t410.length co25) : Value).ownBlock ∧ some k_ ≠ ((.slice Ao31 t415.length co31) : Value).ownBlock) (.slice Ao20 t405.length co20) t405) ∧ Aside0 (Kd.R (Kd.int .i64) 2 wc w.heap.size (fun k_ => some k_ ≠ ((.slice Ao20 t405.length co20) : Value).ownBlock ∧ some k_ ≠ (v424 : Value).ownBlock ∧ some k_ ≠ (v427 : Value).ownBlock ∧ some k_ ≠ ((.slice Ao25 t410.length co25) : Value).ownBlock ∧ some k_ ≠ ((.slice Ao31 t415.length co31) : Value).ownBlock) (.slice Ao33 t419.length co33) t419) ∧ Aside0 (Kd.R (Kd.int .i64) 2 wc w.heap.size (fun k_ => some k_ ≠ ((.slice Ao20 t405.length co20) : Value).ownBlock ∧ some k_ ≠ ((.slice Ao33 t419.length co33) : Value).ownBlock ∧ some k_ ≠ (v427 : Value).ownBlock ∧ some k_ ≠ ((.slice Ao25 t410.length co25) : Value).ownBlock ∧ some k_ ≠ ((.slice Ao31 t415.length co31) : Value).ownBlock) v424 t423) ∧ Aside0 (Kd.R (Kd.int .i64) 2 wc w.heap.size (fun k_ => some k_ ≠ ((.slice Ao20 t405.length co20) : Value).ownBlock ∧ some k_ ≠ ((.slice Ao33 t419.length co33) : Value).ownBlock ∧ some k_ ≠ (v424 : Value).ownBlock ∧ some k_ ≠ ((.slice Ao25 t410.length co25) : Value).ownBlock ∧ some k_ ≠ ((.slice Ao31 t415.length co31) : Value).ownBlock) v427 t426) ∧ Aside0 (Kd.R (Kd.int .i64) 2 wc w.heap.size (fun k_ => some k_ ≠ ((.slice Ao20 t405.length co20) : Value).ownBlock ∧ some k_ ≠ ((.slice Ao33 t419.length co33) : Value).ownBlock ∧ some k_ ≠ (v424 : Value).ownBlock ∧ some k_ ≠ (v427 : Value).ownBlock ∧ some k_ ≠ ((.slice Ao31 t415.length co31) : Value).ownBlock) (.slice Ao25 t410.length co25) t410) ∧ Aside0 (Kd.R (Kd.int .i64) 2 wc w.heap.size (fun k_ => some k_ ≠ ((.slice Ao20 t405.length co20) : Value).ownBlock ∧ some k_ ≠ ((.slice Ao33 t419.length co33) : Value).ownBlock ∧ some k_ ≠ (v424 : Value).ownBlock ∧ some k_ ≠ (v427 : Value).ownBlock ∧ some k_ ≠ ((.slice Ao25 t410.length co25) : Value).ownBlock) (.slice Ao31 t415.length co31) t415) ∧ Aside0 (wc.heap[gb404]? = some (.cells #[.int .i64 t402, .int .i64 t403] 60 (0, 0))) ∧ Aside0 (wc.heap[gb413]? = some (.cells #[.int .i64 t409, (.slice Ao25 t410.length co25)] 51 (0, 0))) ∧ Aside0 (wc.heap[gb418]? = some (.cells #[.int .i64 t414, (.slice Ao31 t415.length co31)] 51 (0, 0))) ∧ Aside0 (Below w.heap.size w wc))
              case first =>
                as_aux_lemma =>
                have H := HC88.out
                clear HC88
                by_cases c89 : t400 ≥ 0
                · rw [if_pos c89] at H
                  have c89b0 : decide (0 ≤ t400) = true := decide_eq_true c89
                  clear c89
                  (first | rw [c89b0] | (simp only [i64_w, i32_w]; rw [c89b0]) | skip)
                  by_cases c90 : t400 ≤ 2147483647
                  · rw [if_pos c90] at H
                    have c90b0 : decide (t400 ≤ 2147483647) = true := decide_eq_true c90
                    clear c90
                    by_cases c91 : t401 ≥ 1
                    · rw [if_pos c91] at H
                      have c91b0 : decide (1 ≤ t401) = true := decide_eq_true c91
                      clear c91
                      by_cases c92 : t401 ≤ 1000000
                      · rw [if_pos c92] at H
                        have c92b0 : decide (t401 ≤ 1000000) = true := decide_eq_true c92
                        clear c92
                        by_cases c93 : t403 < 0
                        · rw [if_pos c93] at H
                          have c93b0 : decide (t403 < 0) = true := decide_eq_true c93
                          clear c93
                          exact absurd (H.trans (congrArg some HT_.out)) (laws_FnChance.j2_no _ _ _ _ _ _ _ _ _)
                        · rw [if_neg c93] at H
                          have c93b0 : decide (t403 < 0) = false := decide_eq_false c93
                          clear c93
                          by_cases c97 : t403 ≥ t401
                          · rw [if_pos c97] at H
                            have c97b0 : decide (t401 ≤ t403) = true := decide_eq_true c97
                            clear c97
                            exact absurd (H.trans (congrArg some HT_.out)) (laws_FnChance.j2_no _ _ _ _ _ _ _ _ _)
                          · rw [if_neg c97] at H
                            have c97b0 : decide (t401 ≤ t403) = false := decide_eq_false c97
                            clear c97
                            by_cases c101 : t402 < 0
                            · rw [if_pos c101] at H
                              have c101b0 : decide (t402 < 0) = true := decide_eq_true c101
                              clear c101
                              exact absurd (H.trans (congrArg some HT_.out)) (laws_FnChance.j2_no _ _ _ _ _ _ _ _ _)
                            · rw [if_neg c101] at H
                              have c101b0 : decide (t402 < 0) = false := decide_eq_false c101
                              clear c101
                              have H' := Aside0.mk H
                              clear H
                              have hnb105 := NB404_413.out
                              have hnc105 := NB413_404.out
                              have hnb106 := NB404_418.out
                              have hnc106 := NB418_404.out
                              have hcz107_0 : wc.cell? ⟨gb404, 0, none⟩ = some (.int .i64 t402) := (blk_cell BK404.out 0).trans rfl
                              have hcz107_1 : wc.cell? ⟨gb404, 1, none⟩ = some (.int .i64 t403) := (blk_cell BK404.out 1).trans rfl
                              have hfz107_0 := blk_frozen BK404.out 0
                              have hfz107_1 := blk_frozen BK404.out 1
                              go_wp2
                              go_meet
                              case rel => exact ⟨_, (decide (t402 > 2147483647)), (by first | rfl | (simp; done) | (simp [*]; done)), H', ⟨by have := HJ2.out; have := HJ13.out; first | omega | exact Nat.le_refl _⟩, ⟨by (with_reducible repeat (first | apply Kd.R_alloc | apply Kd.R_drewN | apply Kd.R_drew)); exact HO_8.out⟩, ⟨by (with_reducible repeat (first | apply Kd.R_alloc | apply Kd.R_drewN | apply Kd.R_drew)); exact HO_12.out⟩, ⟨by (with_reducible repeat (first | apply Kd.R_alloc | apply Kd.R_drewN | apply Kd.R_drew)); exact HO_14.out⟩, ⟨by (with_reducible repeat (first | apply Kd.R_alloc | apply Kd.R_drewN | apply Kd.R_drew)); exact HO_15.out⟩, ⟨by (with_reducible repeat (first | apply Kd.R_alloc | apply Kd.R_drewN | apply Kd.R_drew)); exact HO_414001.out⟩, ⟨by (with_reducible repeat (first | apply Kd.R_alloc | apply Kd.R_drewN | apply Kd.R_drew)); exact HO_419001.out⟩, ⟨by (with_reducible repeat (first | refine blk_drewN ?_ _ | refine blk_drew ?_ | refine blk_alloc ?_ _)); exact BK404.out⟩, ⟨by (with_reducible repeat (first | refine blk_drewN ?_ _ | refine blk_drew ?_ | refine blk_alloc ?_ _)); exact BK413.out⟩, ⟨by (with_reducible repeat (first | refine blk_drewN ?_ _ | refine blk_drew ?_ | refine blk_alloc ?_ _)); exact BK418.out⟩, ⟨by repeat (first | (with_reducible first | exact HB.out | apply below_alloc | apply pw_below_drewN | apply below_drew1 | refine below_set ?_ GE404.out | refine below_set ?_ GE413.out | refine below_set ?_ GE418.out) | exact HB.out)⟩⟩
                      · rw [if_neg c92] at H
                        have c92b0 : decide (t401 ≤ 1000000) = false := decide_eq_false c92
                        clear c92
                        have H' := Aside0.mk H
                        clear H
                        go_wp2
                        go_meet
                        case rel => exact ⟨_, (false), (by first | rfl | (simp; done) | (simp [*]; done)), H', ⟨by have := HJ2.out; have := HJ13.out; first | omega | exact Nat.le_refl _⟩, ⟨by (with_reducible repeat (first | apply Kd.R_alloc | apply Kd.R_drewN | apply Kd.R_drew)); exact HO_8.out⟩, ⟨by (with_reducible repeat (first | apply Kd.R_alloc | apply Kd.R_drewN | apply Kd.R_drew)); exact HO_12.out⟩, ⟨by (with_reducible repeat (first | apply Kd.R_alloc | apply Kd.R_drewN | apply Kd.R_drew)); exact HO_14.out⟩, ⟨by (with_reducible repeat (first | apply Kd.R_alloc | apply Kd.R_drewN | apply Kd.R_drew)); exact HO_15.out⟩, ⟨by (with_reducible repeat (first | apply Kd.R_alloc | apply Kd.R_drewN | apply Kd.R_drew)); exact HO_414001.out⟩, ⟨by (with_reducible repeat (first | apply Kd.R_alloc | apply Kd.R_drewN | apply Kd.R_drew)); exact HO_419001.out⟩, ⟨by (with_reducible repeat (first | refine blk_drewN ?_ _ | refine blk_drew ?_ | refine blk_alloc ?_ _)); exact BK404.out⟩, ⟨by (with_reducible repeat (first | refine blk_drewN ?_ _ | refine blk_drew ?_ | refine blk_alloc ?_ _)); exact BK413.out⟩, ⟨by (with_reducible repeat (first | refine blk_drewN ?_ _ | refine blk_drew ?_ | refine blk_alloc ?_ _)); exact BK418.out⟩, ⟨by repeat (first | (with_reducible first | exact HB.out | apply below_alloc | apply pw_below_drewN | apply below_drew1 | refine below_set ?_ GE404.out | refine below_set ?_ GE413.out | refine below_set ?_ GE418.out) | exact HB.out)⟩⟩
                    · rw [if_neg c91] at H
                      have c91b0 : decide (1 ≤ t401) = false := decide_eq_false c91
                      clear c91
                      have H' := Aside0.mk H
                      clear H
                      go_wp2
                      go_meet
                      case rel => exact ⟨_, (false), (by first | rfl | (simp; done) | (simp [*]; done)), H', ⟨by have := HJ2.out; have := HJ13.out; first | omega | exact Nat.le_refl _⟩, ⟨by (with_reducible repeat (first | apply Kd.R_alloc | apply Kd.R_drewN | apply Kd.R_drew)); exact HO_8.out⟩, ⟨by (with_reducible repeat (first | apply Kd.R_alloc | apply Kd.R_drewN | apply Kd.R_drew)); exact HO_12.out⟩, ⟨by (with_reducible repeat (first | apply Kd.R_alloc | apply Kd.R_drewN | apply Kd.R_drew)); exact HO_14.out⟩, ⟨by (with_reducible repeat (first | apply Kd.R_alloc | apply Kd.R_drewN | apply Kd.R_drew)); exact HO_15.out⟩, ⟨by (with_reducible repeat (first | apply Kd.R_alloc | apply Kd.R_drewN | apply Kd.R_drew)); exact HO_414001.out⟩, ⟨by (with_reducible repeat (first | apply Kd.R_alloc | apply Kd.R_drewN | apply Kd.R_drew)); exact HO_419001.out⟩, ⟨by (with_reducible repeat (first | refine blk_drewN ?_ _ | refine blk_drew ?_ | refine blk_alloc ?_ _)); exact BK404.out⟩, ⟨by (with_reducible repeat (first | refine blk_drewN ?_ _ | refine blk_drew ?_ | refine blk_alloc ?_ _)); exact BK413.out⟩, ⟨by (with_reducible repeat (first | refine blk_drewN ?_ _ | refine blk_drew ?_ | refine blk_alloc ?_ _)); exact BK418.out⟩, ⟨by repeat (first | (with_reducible first | exact HB.out | apply below_alloc | apply pw_below_drewN | apply below_drew1 | refine below_set ?_ GE404.out | refine below_set ?_ GE413.out | refine below_set ?_ GE418.out) | exact HB.out)⟩⟩
                  · rw [if_neg c90] at H
                    have c90b0 : decide (t400 ≤ 2147483647) = false := decide_eq_false c90
                    clear c90
                    have H' := Aside0.mk H
                    clear H
                    go_wp2
                    go_meet
                    case rel => exact ⟨_, (false), (by first | rfl | (simp; done) | (simp [*]; done)), H', ⟨by have := HJ2.out; have := HJ13.out; first | omega | exact Nat.le_refl _⟩, ⟨by (with_reducible repeat (first | apply Kd.R_alloc | apply Kd.R_drewN | apply Kd.R_drew)); exact HO_8.out⟩, ⟨by (with_reducible repeat (first | apply Kd.R_alloc | apply Kd.R_drewN | apply Kd.R_drew)); exact HO_12.out⟩, ⟨by (with_reducible repeat (first | apply Kd.R_alloc | apply Kd.R_drewN | apply Kd.R_drew)); exact HO_14.out⟩, ⟨by (with_reducible repeat (first | apply Kd.R_alloc | apply Kd.R_drewN | apply Kd.R_drew)); exact HO_15.out⟩, ⟨by (with_reducible repeat (first | apply Kd.R_alloc | apply Kd.R_drewN | apply Kd.R_drew)); exact HO_414001.out⟩, ⟨by (with_reducible repeat (first | apply Kd.R_alloc | apply Kd.R_drewN | apply Kd.R_drew)); exact HO_419001.out⟩, ⟨by (with_reducible repeat (first | refine blk_drewN ?_ _ | refine blk_drew ?_ | refine blk_alloc ?_ _)); exact BK404.out⟩, ⟨by (with_reducible repeat (first | refine blk_drewN ?_ _ | refine blk_drew ?_ | refine blk_alloc ?_ _)); exact BK413.out⟩, ⟨by (with_reducible repeat (first | refine blk_drewN ?_ _ | refine blk_drew ?_ | refine blk_alloc ?_ _)); exact BK418.out⟩, ⟨by repeat (first | (with_reducible first | exact HB.out | apply below_alloc | apply pw_below_drewN | apply below_drew1 | refine below_set ?_ GE404.out | refine below_set ?_ GE413.out | refine below_set ?_ GE418.out) | exact HB.out)⟩⟩
                · rw [if_neg c89] at H
                  have c89b0 : decide (0 ≤ t400) = false := decide_eq_false c89
                  clear c89
                  (first | rw [c89b0] | (simp only [i64_w, i32_w]; rw [c89b0]) | skip)
                  have H' := Aside0.mk H
                  clear H
                  go_wp2
                  go_meet
                  case rel => exact ⟨_, (false), (by first | rfl | (simp; done) | (simp [*]; done)), H', ⟨by have := HJ2.out; have := HJ13.out; first | omega | exact Nat.le_refl _⟩, ⟨by (with_reducible repeat (first | apply Kd.R_alloc | apply Kd.R_drewN | apply Kd.R_drew)); exact HO_8.out⟩, ⟨by (with_reducible repeat (first | apply Kd.R_alloc | apply Kd.R_drewN | apply Kd.R_drew)); exact HO_12.out⟩, ⟨by (with_reducible repeat (first | apply Kd.R_alloc | apply Kd.R_drewN | apply Kd.R_drew)); exact HO_14.out⟩, ⟨by (with_reducible repeat (first | apply Kd.R_alloc | apply Kd.R_drewN | apply Kd.R_drew)); exact HO_15.out⟩, ⟨by (with_reducible repeat (first | apply Kd.R_alloc | apply Kd.R_drewN | apply Kd.R_drew)); exact HO_414001.out⟩, ⟨by (with_reducible repeat (first | apply Kd.R_alloc | apply Kd.R_drewN | apply Kd.R_drew)); exact HO_419001.out⟩, ⟨by (with_reducible repeat (first | refine blk_drewN ?_ _ | refine blk_drew ?_ | refine blk_alloc ?_ _)); exact BK404.out⟩, ⟨by (with_reducible repeat (first | refine blk_drewN ?_ _ | refine blk_drew ?_ | refine blk_alloc ?_ _)); exact BK413.out⟩, ⟨by (with_reducible repeat (first | refine blk_drewN ?_ _ | refine blk_drew ?_ | refine blk_alloc ?_ _)); exact BK418.out⟩, ⟨by repeat (first | (with_reducible first | exact HB.out | apply below_alloc | apply pw_below_drewN | apply below_drew1 | refine below_set ?_ GE404.out | refine below_set ?_ GE413.out | refine below_set ?_ GE418.out) | exact HB.out)⟩⟩
              case rest =>
                as_aux_lemma =>
                clear HC88
                try clear c1
                try clear p2
                try clear c3
                try clear c4
                try clear c8
                try clear c9
                try clear c10
                try clear c31
                try clear c40
                try clear c40b0
                try clear c40b1
                try clear c43
                try clear c87
                try clear c89
                try clear c89b0
                try clear c90
                try clear c90b0
                try clear c91
                try clear c91b0
                try clear c92
                try clear c92b0
                try clear c93
                try clear c93b0
                try clear c94
                try clear c95
                try clear c97
                try clear c97b0
                try clear c98
                try clear c99
                try clear c101
                try clear c101b0
                try clear c102
                try clear c103
                try clear c105
                try clear c106
                try clear hcz100_0
                try clear hcz100_1
                try clear hcz104_0
                try clear hcz104_1
                try clear hcz107_0
                try clear hcz107_1
                try clear hcz96_0
                try clear hcz96_1
                try clear hfz100_0
                try clear hfz100_1
                try clear hfz104_0
                try clear hfz104_1
                try clear hfz107_0
                try clear hfz107_1
                try clear hfz96_0
                try clear hfz96_1
                try clear p2
                obtain ⟨kq, x141_87, rfl, HA, HJ87, HO_8, HO_12, HO_14, HO_15, HO_414001, HO_419001, BK404, BK413, BK418, HB⟩ := hcut
                cases kq with
                | zero => exact absurd HA.out (by simp [laws_FnChance.j2])
                | succ kj87 =>
                  have H := HA.out
                  clear HA
                  simp only [laws_FnChance.j2] at H
                  by_cases c108 : x141_87 = true
                  · subst c108
                    have H1 : (some false) = some r := by rw [if_pos rfl] at H; exact H
                    clear H
                    have H := H1
                    clear H1
                    exact absurd ((Option.some.inj H).trans HT_.out) (by decide)
                  · replace c108 := Bool.eq_false_iff.mpr c108
                    subst c108
                    have H1 : (if t406 ≥ 0 then (laws_FnChance.j3 kj87 t405 t419 t420 t423 t426 (decide (t406 ≤ 2147483647)) t409 t410) else (laws_FnChance.j3 kj87 t405 t419 t420 t423 t426 false t409 t410)) = some r := by rw [if_neg (show ¬ (false = true) by decide)] at H; exact H
                    clear H
                    have H := H1
                    clear H1
                    have HC109 := Aside0.mk H
                    clear H
                    go_upto_region 14 with (fail)
                    go_cut [147] (fun v147 wc => ∃ (kq : Nat) (x147_108 : Bool), v147 = .bool x147_108 ∧ Aside0 (laws_FnChance.j3 kq t405 t419 t420 t423 t426 x147_108 t409 t410 = some r) ∧ Aside0 (kq ≤ kj87) ∧ Aside0 (Kd.R (Kd.int .i64) 2 wc w.heap.size (fun k_ => some k_ ≠ ((.slice Ao33 t419.length co33) : Value).ownBlock ∧ some k_ ≠ (v424 : Value).ownBlock ∧ some k_ ≠ (v427 : Value).ownBlock ∧ some k_ ≠ ((.slice Ao25 t410.length co25) : Value).ownBlock ∧ some k_ ≠ ((.slice Ao31 t415.length co31) : Value).ownBlock) (.slice Ao20 t405.length co20) t405) ∧ Aside0 (Kd.R (Kd.int .i64) 2 wc w.heap.size (fun k_ => some k_ ≠ ((.slice Ao20 t405.length co20) : Value).ownBlock ∧ some k_ ≠ (v424 : Value).ownBlock ∧ some k_ ≠ (v427 : Value).ownBlock ∧ some k_ ≠ ((.slice Ao25 t410.length co25) : Value).ownBlock ∧ some k_ ≠ ((.slice Ao31 t415.length co31) : Value).ownBlock) (.slice Ao33 t419.length co33) t419) ∧ Aside0 (Kd.R (Kd.int .i64) 2 wc w.heap.size (fun k_ => some k_ ≠ ((.slice Ao20 t405.length co20) : Value).ownBlock ∧ some k_ ≠ ((.slice Ao33 t419.length co33) : Value).ownBlock ∧ some k_ ≠ (v427 : Value).ownBlock ∧ some k_ ≠ ((.slice Ao25 t410.length co25) : Value).ownBlock ∧ some k_ ≠ ((.slice Ao31 t415.length co31) : Value).ownBlock) v424 t423) ∧ Aside0 (Kd.R (Kd.int .i64) 2 wc w.heap.size (fun k_ => some k_ ≠ ((.slice Ao20 t405.length co20) : Value).ownBlock ∧ some k_ ≠ ((.slice Ao33 t419.length co33) : Value).ownBlock ∧ some k_ ≠ (v424 : Value).ownBlock ∧ some k_ ≠ ((.slice Ao25 t410.length co25) : Value).ownBlock ∧ some k_ ≠ ((.slice Ao31 t415.length co31) : Value).ownBlock) v427 t426) ∧ Aside0 (Kd.R (Kd.int .i64) 2 wc w.heap.size (fun k_ => some k_ ≠ ((.slice Ao20 t405.length co20) : Value).ownBlock ∧ some k_ ≠ ((.slice Ao33 t419.length co33) : Value).ownBlock ∧ some k_ ≠ (v424 : Value).ownBlock ∧ some k_ ≠ (v427 : Value).ownBlock ∧ some k_ ≠ ((.slice Ao31 t415.length co31) : Value).ownBlock) (.slice Ao25 t410.length co25) t410) ∧ Aside0 (Kd.R (Kd.int .i64) 2 wc w.heap.size (fun k_ => some k_ ≠ ((.slice Ao20 t405.length co20) : Value).ownBlock ∧ some k_ ≠ ((.slice Ao33 t419.length co33) : Value).ownBlock ∧ some k_ ≠ (v424 : Value).ownBlock ∧ some k_ ≠ (v427 : Value).ownBlock ∧ some k_ ≠ ((.slice Ao25 t410.length co25) : Value).ownBlock) (.slice Ao31 t415.length co31) t415) ∧ Aside0 (wc.heap[gb404]? = some (.cells #[.int .i64 t402, .int .i64 t403] 60 (0, 0))) ∧ Aside0 (wc.heap[gb413]? = some (.cells #[.int .i64 t409, (.slice Ao25 t410.length co25)] 51 (0, 0))) ∧ Aside0 (wc.heap[gb418]? = some (.cells #[.int .i64 t414, (.slice Ao31 t415.length co31)] 51 (0, 0))) ∧ Aside0 (Below w.heap.size w wc))
                    case first =>
                      as_aux_lemma =>
                      have H := HC109.out
                      clear HC109
                      by_cases c110 : t406 ≥ 0
                      · rw [if_pos c110] at H
                        have c110b0 : decide (0 ≤ t406) = true := decide_eq_true c110
                        clear c110
                        (first | rw [c110b0] | (simp only [i64_w, i32_w]; rw [c110b0]) | skip)
                        have H' := Aside0.mk H
                        clear H
                        go_wp2
                        go_meet
                        case rel => exact ⟨_, (decide (t406 ≤ 2147483647)), (by first | rfl | (simp; done) | (simp [*]; done)), H', ⟨by have := HJ2.out; have := HJ13.out; have := HJ87.out; first | omega | exact Nat.le_refl _⟩, ⟨by (with_reducible repeat (first | apply Kd.R_alloc | apply Kd.R_drewN | apply Kd.R_drew)); exact HO_8.out⟩, ⟨by (with_reducible repeat (first | apply Kd.R_alloc | apply Kd.R_drewN | apply Kd.R_drew)); exact HO_12.out⟩, ⟨by (with_reducible repeat (first | apply Kd.R_alloc | apply Kd.R_drewN | apply Kd.R_drew)); exact HO_14.out⟩, ⟨by (with_reducible repeat (first | apply Kd.R_alloc | apply Kd.R_drewN | apply Kd.R_drew)); exact HO_15.out⟩, ⟨by (with_reducible repeat (first | apply Kd.R_alloc | apply Kd.R_drewN | apply Kd.R_drew)); exact HO_414001.out⟩, ⟨by (with_reducible repeat (first | apply Kd.R_alloc | apply Kd.R_drewN | apply Kd.R_drew)); exact HO_419001.out⟩, ⟨by (with_reducible repeat (first | refine blk_drewN ?_ _ | refine blk_drew ?_ | refine blk_alloc ?_ _)); exact BK404.out⟩, ⟨by (with_reducible repeat (first | refine blk_drewN ?_ _ | refine blk_drew ?_ | refine blk_alloc ?_ _)); exact BK413.out⟩, ⟨by (with_reducible repeat (first | refine blk_drewN ?_ _ | refine blk_drew ?_ | refine blk_alloc ?_ _)); exact BK418.out⟩, ⟨by repeat (first | (with_reducible first | exact HB.out | apply below_alloc | apply pw_below_drewN | apply below_drew1 | refine below_set ?_ GE404.out | refine below_set ?_ GE413.out | refine below_set ?_ GE418.out) | exact HB.out)⟩⟩
                      · rw [if_neg c110] at H
                        have c110b0 : decide (0 ≤ t406) = false := decide_eq_false c110
                        clear c110
                        (first | rw [c110b0] | (simp only [i64_w, i32_w]; rw [c110b0]) | skip)
                        have H' := Aside0.mk H
                        clear H
                        go_wp2
                        go_meet
                        case rel => exact ⟨_, (false), (by first | rfl | (simp; done) | (simp [*]; done)), H', ⟨by have := HJ2.out; have := HJ13.out; have := HJ87.out; first | omega | exact Nat.le_refl _⟩, ⟨by (with_reducible repeat (first | apply Kd.R_alloc | apply Kd.R_drewN | apply Kd.R_drew)); exact HO_8.out⟩, ⟨by (with_reducible repeat (first | apply Kd.R_alloc | apply Kd.R_drewN | apply Kd.R_drew)); exact HO_12.out⟩, ⟨by (with_reducible repeat (first | apply Kd.R_alloc | apply Kd.R_drewN | apply Kd.R_drew)); exact HO_14.out⟩, ⟨by (with_reducible repeat (first | apply Kd.R_alloc | apply Kd.R_drewN | apply Kd.R_drew)); exact HO_15.out⟩, ⟨by (with_reducible repeat (first | apply Kd.R_alloc | apply Kd.R_drewN | apply Kd.R_drew)); exact HO_414001.out⟩, ⟨by (with_reducible repeat (first | apply Kd.R_alloc | apply Kd.R_drewN | apply Kd.R_drew)); exact HO_419001.out⟩, ⟨by (with_reducible repeat (first | refine blk_drewN ?_ _ | refine blk_drew ?_ | refine blk_alloc ?_ _)); exact BK404.out⟩, ⟨by (with_reducible repeat (first | refine blk_drewN ?_ _ | refine blk_drew ?_ | refine blk_alloc ?_ _)); exact BK413.out⟩, ⟨by (with_reducible repeat (first | refine blk_drewN ?_ _ | refine blk_drew ?_ | refine blk_alloc ?_ _)); exact BK418.out⟩, ⟨by repeat (first | (with_reducible first | exact HB.out | apply below_alloc | apply pw_below_drewN | apply below_drew1 | refine below_set ?_ GE404.out | refine below_set ?_ GE413.out | refine below_set ?_ GE418.out) | exact HB.out)⟩⟩
                    case rest =>
                      as_aux_lemma =>
                      clear HC109
                      try clear c1
                      try clear p2
                      try clear c3
                      try clear c4
                      try clear c8
                      try clear c9
                      try clear c10
                      try clear c11
                      try clear c31
                      try clear c40
                      try clear c40b0
                      try clear c40b1
                      try clear c43
                      try clear c87
                      try clear c89
                      try clear c89b0
                      try clear c90
                      try clear c90b0
                      try clear c91
                      try clear c91b0
                      try clear c92
                      try clear c92b0
                      try clear c93
                      try clear c93b0
                      try clear c94
                      try clear c95
                      try clear c97
                      try clear c97b0
                      try clear c98
                      try clear c99
                      try clear c101
                      try clear c101b0
                      try clear c102
                      try clear c103
                      try clear c105
                      try clear c106
                      try clear c108
                      try clear c110
                      try clear c110b0
                      try clear hcz100_0
                      try clear hcz100_1
                      try clear hcz104_0
                      try clear hcz104_1
                      try clear hcz107_0
                      try clear hcz107_1
                      try clear hcz96_0
                      try clear hcz96_1
                      try clear hfz100_0
                      try clear hfz100_1
                      try clear hfz104_0
                      try clear hfz104_1
                      try clear hfz107_0
                      try clear hfz107_1
                      try clear hfz96_0
                      try clear hfz96_1
                      try clear p2
                      obtain ⟨kq, x147_108, rfl, HA, HJ108, HO_8, HO_12, HO_14, HO_15, HO_414001, HO_419001, BK404, BK413, BK418, HB⟩ := hcut
                      cases kq with
                      | zero => exact absurd HA.out (by simp [laws_FnChance.j3])
                      | succ kj108 =>
                        have H := HA.out
                        clear HA
                        simp only [laws_FnChance.j3] at H
                        have HC111 := Aside0.mk H
                        clear H
                        go_upto_if 147 with (fail)
                        go_cut [] (fun wc => ∃ (kq : Nat), Aside0 (laws_FnChance.j5 kq t419 t420 t423 t426 = some r) ∧ Aside0 (kq ≤ kj108) ∧ Aside0 (Kd.R (Kd.int .i64) 2 wc w.heap.size (fun k_ => some k_ ≠ (v424 : Value).ownBlock ∧ some k_ ≠ (v427 : Value).ownBlock ∧ some k_ ≠ ((.slice Ao25 t410.length co25) : Value).ownBlock ∧ some k_ ≠ ((.slice Ao31 t415.length co31) : Value).ownBlock) (.slice Ao33 t419.length co33) t419) ∧ Aside0 (Kd.R (Kd.int .i64) 2 wc w.heap.size (fun k_ => some k_ ≠ ((.slice Ao33 t419.length co33) : Value).ownBlock ∧ some k_ ≠ (v427 : Value).ownBlock ∧ some k_ ≠ ((.slice Ao25 t410.length co25) : Value).ownBlock ∧ some k_ ≠ ((.slice Ao31 t415.length co31) : Value).ownBlock) v424 t423) ∧ Aside0 (Kd.R (Kd.int .i64) 2 wc w.heap.size (fun k_ => some k_ ≠ ((.slice Ao33 t419.length co33) : Value).ownBlock ∧ some k_ ≠ (v424 : Value).ownBlock ∧ some k_ ≠ ((.slice Ao25 t410.length co25) : Value).ownBlock ∧ some k_ ≠ ((.slice Ao31 t415.length co31) : Value).ownBlock) v427 t426) ∧ Aside0 (Kd.R (Kd.int .i64) 2 wc w.heap.size (fun k_ => some k_ ≠ ((.slice Ao33 t419.length co33) : Value).ownBlock ∧ some k_ ≠ (v424 : Value).ownBlock ∧ some k_ ≠ (v427 : Value).ownBlock ∧ some k_ ≠ ((.slice Ao31 t415.length co31) : Value).ownBlock) (.slice Ao25 t410.length co25) t410) ∧ Aside0 (Kd.R (Kd.int .i64) 2 wc w.heap.size (fun k_ => some k_ ≠ ((.slice Ao33 t419.length co33) : Value).ownBlock ∧ some k_ ≠ (v424 : Value).ownBlock ∧ some k_ ≠ (v427 : Value).ownBlock ∧ some k_ ≠ ((.slice Ao25 t410.length co25) : Value).ownBlock) (.slice Ao31 t415.length co31) t415) ∧ Aside0 (wc.heap[gb404]? = some (.cells #[.int .i64 t402, .int .i64 t403] 60 (0, 0))) ∧ Aside0 (wc.heap[gb413]? = some (.cells #[.int .i64 t409, (.slice Ao25 t410.length co25)] 51 (0, 0))) ∧ Aside0 (wc.heap[gb418]? = some (.cells #[.int .i64 t414, (.slice Ao31 t415.length co31)] 51 (0, 0))) ∧ Aside0 (Below w.heap.size w wc))
                        case first =>
                          as_aux_lemma =>
                          have H := HC111.out
                          clear HC111
                          by_cases c112 : x147_108 = true
                          · subst c112
                            have H1 : (laws_FnChance.l0 kj108 t405 t419 t420 t423 t426 0 t409 t410) = some r := by rw [if_pos rfl] at H; exact H
                            clear H
                            have H := H1
                            clear H1
                            have H' := Aside0.mk H
                            clear H
                            go_wp2
                            go_loopg [16] kj108 (fun kq v16 w' => ∃ (x16_5 : Int), v16 = .int .i64 x16_5 ∧ Aside0 (laws_FnChance.l0 kq t405 t419 t420 t423 t426 x16_5 t409 t410 = some r) ∧ Aside0 (kq ≤ kj108) ∧ Aside0 (Kd.R (Kd.int .i64) 2 w' w.heap.size (fun k_ => some k_ ≠ ((.slice Ao33 t419.length co33) : Value).ownBlock ∧ some k_ ≠ (v424 : Value).ownBlock ∧ some k_ ≠ (v427 : Value).ownBlock ∧ some k_ ≠ ((.slice Ao25 t410.length co25) : Value).ownBlock ∧ some k_ ≠ ((.slice Ao31 t415.length co31) : Value).ownBlock) (.slice Ao20 t405.length co20) t405) ∧ Aside0 (Kd.R (Kd.int .i64) 2 w' w.heap.size (fun k_ => some k_ ≠ ((.slice Ao20 t405.length co20) : Value).ownBlock ∧ some k_ ≠ (v424 : Value).ownBlock ∧ some k_ ≠ (v427 : Value).ownBlock ∧ some k_ ≠ ((.slice Ao25 t410.length co25) : Value).ownBlock ∧ some k_ ≠ ((.slice Ao31 t415.length co31) : Value).ownBlock) (.slice Ao33 t419.length co33) t419) ∧ Aside0 (Kd.R (Kd.int .i64) 2 w' w.heap.size (fun k_ => some k_ ≠ ((.slice Ao20 t405.length co20) : Value).ownBlock ∧ some k_ ≠ ((.slice Ao33 t419.length co33) : Value).ownBlock ∧ some k_ ≠ (v427 : Value).ownBlock ∧ some k_ ≠ ((.slice Ao25 t410.length co25) : Value).ownBlock ∧ some k_ ≠ ((.slice Ao31 t415.length co31) : Value).ownBlock) v424 t423) ∧ Aside0 (Kd.R (Kd.int .i64) 2 w' w.heap.size (fun k_ => some k_ ≠ ((.slice Ao20 t405.length co20) : Value).ownBlock ∧ some k_ ≠ ((.slice Ao33 t419.length co33) : Value).ownBlock ∧ some k_ ≠ (v424 : Value).ownBlock ∧ some k_ ≠ ((.slice Ao25 t410.length co25) : Value).ownBlock ∧ some k_ ≠ ((.slice Ao31 t415.length co31) : Value).ownBlock) v427 t426) ∧ Aside0 (Kd.R (Kd.int .i64) 2 w' w.heap.size (fun k_ => some k_ ≠ ((.slice Ao20 t405.length co20) : Value).ownBlock ∧ some k_ ≠ ((.slice Ao33 t419.length co33) : Value).ownBlock ∧ some k_ ≠ (v424 : Value).ownBlock ∧ some k_ ≠ (v427 : Value).ownBlock ∧ some k_ ≠ ((.slice Ao31 t415.length co31) : Value).ownBlock) (.slice Ao25 t410.length co25) t410) ∧ Aside0 (Kd.R (Kd.int .i64) 2 w' w.heap.size (fun k_ => some k_ ≠ ((.slice Ao20 t405.length co20) : Value).ownBlock ∧ some k_ ≠ ((.slice Ao33 t419.length co33) : Value).ownBlock ∧ some k_ ≠ (v424 : Value).ownBlock ∧ some k_ ≠ (v427 : Value).ownBlock ∧ some k_ ≠ ((.slice Ao25 t410.length co25) : Value).ownBlock) (.slice Ao31 t415.length co31) t415) ∧ Aside0 (w'.heap[gb404]? = some (.cells #[.int .i64 t402, .int .i64 t403] 60 (0, 0))) ∧ Aside0 (w'.heap[gb413]? = some (.cells #[.int .i64 t409, (.slice Ao25 t410.length co25)] 51 (0, 0))) ∧ Aside0 (w'.heap[gb418]? = some (.cells #[.int .i64 t414, (.slice Ao31 t415.length co31)] 51 (0, 0))) ∧ Aside0 (Below w.heap.size w w'))
                            case atStart => exact ⟨(0), (by first | rfl | (simp; done) | (simp [*]; done)), H', ⟨Nat.le_refl _⟩, ⟨by (with_reducible repeat (first | apply Kd.R_alloc | apply Kd.R_drewN | apply Kd.R_drew)); exact HO_8.out⟩, ⟨by (with_reducible repeat (first | apply Kd.R_alloc | apply Kd.R_drewN | apply Kd.R_drew)); exact HO_12.out⟩, ⟨by (with_reducible repeat (first | apply Kd.R_alloc | apply Kd.R_drewN | apply Kd.R_drew)); exact HO_14.out⟩, ⟨by (with_reducible repeat (first | apply Kd.R_alloc | apply Kd.R_drewN | apply Kd.R_drew)); exact HO_15.out⟩, ⟨by (with_reducible repeat (first | apply Kd.R_alloc | apply Kd.R_drewN | apply Kd.R_drew)); exact HO_414001.out⟩, ⟨by (with_reducible repeat (first | apply Kd.R_alloc | apply Kd.R_drewN | apply Kd.R_drew)); exact HO_419001.out⟩, ⟨by (with_reducible repeat (first | refine blk_drewN ?_ _ | refine blk_drew ?_ | refine blk_alloc ?_ _)); exact BK404.out⟩, ⟨by (with_reducible repeat (first | refine blk_drewN ?_ _ | refine blk_drew ?_ | refine blk_alloc ?_ _)); exact BK413.out⟩, ⟨by (with_reducible repeat (first | refine blk_drewN ?_ _ | refine blk_drew ?_ | refine blk_alloc ?_ _)); exact BK418.out⟩, ⟨by repeat (first | (with_reducible first | exact HB.out | apply below_alloc | apply pw_below_drewN | apply below_drew1 | refine below_set ?_ GE404.out | refine below_set ?_ GE413.out | refine below_set ?_ GE418.out) | exact HB.out)⟩⟩
                            case round =>
                              as_aux_lemma =>
                              clear H'
                              try clear c1
                              try clear p2
                              try clear c3
                              try clear c4
                              try clear c8
                              try clear c9
                              try clear c10
                              try clear c11
                              try clear c31
                              try clear c40
                              try clear c40b0
                              try clear c40b1
                              try clear c43
                              try clear c87
                              try clear c89
                              try clear c89b0
                              try clear c90
                              try clear c90b0
                              try clear c91
                              try clear c91b0
                              try clear c92
                              try clear c92b0
                              try clear c93
                              try clear c93b0
                              try clear c94
                              try clear c95
                              try clear c97
                              try clear c97b0
                              try clear c98
                              try clear c99
                              try clear c101
                              try clear c101b0
                              try clear c102
                              try clear c103
                              try clear c105
                              try clear c106
                              try clear c108
                              try clear c110
                              try clear c110b0
                              try clear c112
                              try clear hcz100_0
                              try clear hcz100_1
                              try clear hcz104_0
                              try clear hcz104_1
                              try clear hcz107_0
                              try clear hcz107_1
                              try clear hcz96_0
                              try clear hcz96_1
                              try clear hfz100_0
                              try clear hfz100_1
                              try clear hfz104_0
                              try clear hfz104_1
                              try clear hfz107_0
                              try clear hfz107_1
                              try clear hfz96_0
                              try clear hfz96_1
                              try clear p2
                              obtain ⟨x16_5, rfl, HA, HK5, HO_8, HO_12, HO_14, HO_15, HO_414001, HO_419001, BK404, BK413, BK418, HB⟩ := hrel
                              cases gk with
                              | zero => exact absurd HA.out (by simp [laws_FnChance.l0])
                              | succ k5 =>
                                have H := HA.out
                                clear HA
                                simp only [laws_FnChance.l0] at H
                                by_cases c113 : x16_5 < (t405.length : Int)
                                · rw [if_pos c113] at H
                                  have c113b0 : decide (x16_5 < (t405.length : Int)) = true := decide_eq_true c113
                                  clear c113
                                  (first | rw [c113b0] | (simp only [i64_w, i32_w]; rw [c113b0]) | skip)
                                  by_cases c114 : 0 ≤ x16_5
                                  · rw [if_pos c114] at H
                                    have c114b0 : decide (0 ≤ x16_5) = true := decide_eq_true c114
                                    clear c114
                                    replace H := Option.bind_eq_some_iff.mp H
                                    obtain ⟨t445, A1150, H⟩ := H
                                    replace H : ((laws_lwMany.f k5 t405 (rd t405 x16_5)).bind fun t447 => (if t445 = t447 then (laws_FnChance.l0 k5 t405 t419 t420 t423 t426 (wrap64 (x16_5 + 1)) t409 t410) else (some false))) = some r := H
                                    have A115 := Aside0.mk A1150
                                    clear A1150
                                    replace H := Option.bind_eq_some_iff.mp H
                                    obtain ⟨t447, A1160, H⟩ := H
                                    replace H : (if t445 = t447 then (laws_FnChance.l0 k5 t405 t419 t420 t423 t426 (wrap64 (x16_5 + 1)) t409 t410) else (some false)) = some r := H
                                    have A116 := Aside0.mk A1160
                                    clear A1160
                                    by_cases c117 : t445 = t447
                                    · rw [if_pos c117] at H
                                      have c117b0 : (t445 == t447) = true := beq_iff_eq.mpr c117
                                      have c117b1 : (t445 != t447) = false := bne_eq_false_iff_eq.mpr c117
                                      clear c117
                                      have H' := Aside0.mk H
                                      clear H
                                      try go_wp2
                                      have n0_ := Aside0.mk (Kd.R_drew HO_8.out)
                                      have n1_ := Aside0.mk (Kd.R_drew HO_12.out)
                                      have n2_ := Aside0.mk (Kd.R_drew HO_14.out)
                                      have n3_ := Aside0.mk (Kd.R_drew HO_15.out)
                                      have n4_ := Aside0.mk (Kd.R_drew HO_414001.out)
                                      have n5_ := Aside0.mk (Kd.R_drew HO_419001.out)
                                      have n6_ := Aside0.mk (blk_drew BK404.out)
                                      have n7_ := Aside0.mk (blk_drew BK413.out)
                                      have n8_ := Aside0.mk (blk_drew BK418.out)
                                      have n9_ := Aside0.mk (below_drew1 HB.out)
                                      clear HO_8
                                      clear HO_12
                                      clear HO_14
                                      clear HO_15
                                      clear HO_414001
                                      clear HO_419001
                                      clear BK404
                                      clear BK413
                                      clear BK418
                                      clear HB
                                      have HO_8 := n0_
                                      have HO_12 := n1_
                                      have HO_14 := n2_
                                      have HO_15 := n3_
                                      have HO_414001 := n4_
                                      have HO_419001 := n5_
                                      have BK404 := n6_
                                      have BK413 := n7_
                                      have BK418 := n8_
                                      have HB := n9_
                                      clear n0_ n1_ n2_ n3_ n4_ n5_ n6_ n7_ n8_ n9_
                                      have p444 : 0 ≤ (x16_5 : Int) := of_decide_eq_true (by first | (with_reducible assumption) | assumption)
                                      have q444 : x16_5 < (t405.length : Int) := of_decide_eq_true (by first | (with_reducible assumption) | assumption)
                                      obtain ⟨ad444, e444, hx444_0⟩ := Kd.at_int (Kd.R_reads' HO_8.out).2.2 x16_5 p444 q444
                                      cases e444
                                      replace p444 := eq_true p444
                                      replace q444 := eq_true q444
                                      have p446 : 0 ≤ (x16_5 : Int) := of_decide_eq_true (by first | (with_reducible assumption) | assumption)
                                      have q446 : x16_5 < (t405.length : Int) := of_decide_eq_true (by first | (with_reducible assumption) | assumption)
                                      obtain ⟨ad446, e446, hx446_0⟩ := Kd.at_int (Kd.R_reads' HO_8.out).2.2 x16_5 p446 q446
                                      obtain rfl : ad444 = ad446 := (by injection e446)
                                      replace p446 := eq_true p446
                                      replace q446 := eq_true q446
                                      refine start_ (n := 14) (S := fun w' => w'.cell? ⟨gb413, 0, none⟩ = some (.int .i64 t409) ∧ w'.cell? ⟨gb413, 1, none⟩ = some (.slice Ao25 t410.length co25) ∧ w'.cell? (ad444.add (x16_5).toNat) = some (.int .i64 (rd t405 x16_5)) ∧ w'.cell? (ad444.add (x16_5).toNat) = some (.int .i64 (rd t405 x16_5))) (ds := []) #[false, false, false, false, false, false, false, false, false, false, false, false, false, false] (by kernel_rfl) rfl rfl ⟨(blk_cell BK413.out 0).trans rfl, (blk_cell BK413.out 1).trans rfl, hx444_0, hx446_0⟩ (fun hHeld => ?_); refine with_tabW laws_FnChance.tab18 laws_FnChance.bits18 (fun HT_ HW_ => ?_)
                                      generalize wr.drew = w118 at HO_8 HO_12 HO_14 HO_15 HO_414001 HO_419001 BK404 BK413 BK418 HB hx444_0 hx446_0 hHeld ⊢
                                      refine pure_ (i := 0) (N := some 154) (v := ?_) (a' := ?_) #[true, false, false, false, false, false, false, false, false, false, false, false, false, false] rfl rfl (any_of HT_.out (by kernel_rfl)) (fun _ _ _ h => h) (Or.inl ⟨by rfl, ?_⟩) ?_ ?_
                                      rotate_left
                                      · intro w'
                                        go_simp
                                        with_reducible rfl
                                      rotate_left
                                      · simp only [Act.put, List.setIfInBounds_toArray, List.set_cons_zero, List.set_cons_succ, i64_w, i32_w]
                                        rfl
                                      refine pure_ (i := 2) (N := some 156) (v := ?_) (a' := ?_) #[true, false, true, false, false, false, false, false, false, false, false, false, false, false] rfl rfl (any_of HT_.out (by kernel_rfl)) (fun _ _ _ h => h) (Or.inl ⟨by rfl, ?_⟩) ?_ ?_
                                      rotate_left
                                      · intro w'
                                        go_simp
                                        with_reducible rfl
                                      rotate_left
                                      · simp only [Act.put, List.setIfInBounds_toArray, List.set_cons_zero, List.set_cons_succ, i64_w, i32_w]
                                        rfl
                                      refine pure_ (i := 3) (N := some 157) (v := ?_) (a' := ?_) #[true, false, true, true, false, false, false, false, false, false, false, false, false, false] rfl rfl (any_of HT_.out (by kernel_rfl)) (fun _ _ _ h => h) (Or.inl ⟨by rfl, ?_⟩) ?_ ?_
                                      rotate_left
                                      · intro w'
                                        go_simp
                                        with_reducible rfl
                                      rotate_left
                                      · simp only [Act.put, List.setIfInBounds_toArray, List.set_cons_zero, List.set_cons_succ, i64_w, i32_w]
                                        rfl
                                      refine pure_ (i := 4) (N := some 158) (v := ?_) (a' := ?_) #[true, false, true, true, true, false, false, false, false, false, false, false, false, false] rfl rfl (any_of HT_.out (by kernel_rfl)) (fun _ _ _ h => h) (Or.inl ⟨by rfl, ?_⟩) ?_ ?_
                                      rotate_left
                                      · intro w'
                                        go_simp
                                        with_reducible rfl
                                      rotate_left
                                      · simp only [Act.put, List.setIfInBounds_toArray, List.set_cons_zero, List.set_cons_succ, i64_w, i32_w]
                                        rfl
                                      refine pure_ (i := 7) (N := some 161) (v := ?_) (a' := ?_) #[true, false, true, true, true, false, false, true, false, false, false, false, false, false] rfl rfl (any_of HT_.out (by kernel_rfl)) (fun _ _ _ h => h) (Or.inl ⟨by rfl, ?_⟩) ?_ ?_
                                      rotate_left
                                      · intro w'
                                        go_simp
                                        with_reducible rfl
                                      rotate_left
                                      · simp only [Act.put, List.setIfInBounds_toArray, List.set_cons_zero, List.set_cons_succ, i64_w, i32_w]
                                        rfl
                                      refine pure_ (i := 8) (N := some 162) (v := ?_) (a' := ?_) #[true, false, true, true, true, false, false, true, true, false, false, false, false, false] rfl rfl (any_of HT_.out (by kernel_rfl)) (fun _ _ _ h => h) (Or.inl ⟨by rfl, ?_⟩) ?_ ?_
                                      rotate_left
                                      · intro w'
                                        go_simp
                                        with_reducible rfl
                                      rotate_left
                                      · simp only [Act.put, List.setIfInBounds_toArray, List.set_cons_zero, List.set_cons_succ, i64_w, i32_w]
                                        rfl
                                      refine pure_ (i := 9) (N := some 163) (v := ?_) (a' := ?_) #[true, false, true, true, true, false, false, true, true, true, false, false, false, false] rfl rfl (any_of HT_.out (by kernel_rfl)) (fun _ _ _ h => h) (Or.inl ⟨by rfl, ?_⟩) ?_ ?_
                                      rotate_left
                                      · intro w'
                                        go_simp
                                        with_reducible rfl
                                      rotate_left
                                      · simp only [Act.put, List.setIfInBounds_toArray, List.set_cons_zero, List.set_cons_succ, i64_w, i32_w]
                                        rfl
                                      refine pure_ (i := 10) (N := some 164) (v := ?_) (a' := ?_) #[true, false, true, true, true, false, false, true, true, true, true, false, false, false] rfl rfl (any_of HT_.out (by kernel_rfl)) (fun _ _ _ h => h) (Or.inl ⟨by rfl, ?_⟩) ?_ ?_
                                      rotate_left
                                      · intro w'
                                        go_simp
                                        with_reducible rfl
                                      rotate_left
                                      · simp only [Act.put, List.setIfInBounds_toArray, List.set_cons_zero, List.set_cons_succ, i64_w, i32_w]
                                        rfl
                                      refine take_ (i := 1) (N := some 155) (v := ?_) (a' := ?_) #[true, true, true, true, true, false, false, true, true, true, true, false, false, false] rfl rfl (take_ofW HT_.out HW_.out (by kernel_rfl)) (fun _ _ _ h => h) (Or.inl ⟨by rfl, ?_⟩) hHeld ?_ ?_
                                      rotate_left
                                      · rintro w' ⟨s0, s1, s2, s3⟩
                                        go_simp
                                        with_reducible rfl
                                      rotate_left
                                      · simp only [Act.put, List.setIfInBounds_toArray, List.set_cons_zero, List.set_cons_succ, i64_w, i32_w]
                                        rfl
                                      refine take_ (i := 5) (N := some 159) (v := ?_) (a' := ?_) #[true, true, true, true, true, true, false, true, true, true, true, false, false, false] rfl rfl (take_ofW HT_.out HW_.out (by kernel_rfl)) (fun _ _ _ h => h) (Or.inl ⟨by rfl, ?_⟩) hHeld ?_ ?_
                                      rotate_left
                                      · rintro w' ⟨s0, s1, s2, s3⟩
                                        go_simp
                                        with_reducible rfl
                                      rotate_left
                                      · simp only [Act.put, List.setIfInBounds_toArray, List.set_cons_zero, List.set_cons_succ, i64_w, i32_w]
                                        rfl
                                      refine take_ (i := 11) (N := some 165) (v := ?_) (a' := ?_) #[true, true, true, true, true, true, false, true, true, true, true, true, false, false] rfl rfl (take_ofW HT_.out HW_.out (by kernel_rfl)) (fun _ _ _ h => h) (Or.inl ⟨by rfl, ?_⟩) hHeld ?_ ?_
                                      rotate_left
                                      · rintro w' ⟨s0, s1, s2, s3⟩
                                        go_simp
                                        with_reducible rfl
                                      rotate_left
                                      · simp only [Act.put, List.setIfInBounds_toArray, List.set_cons_zero, List.set_cons_succ, i64_w, i32_w]
                                        rfl
                                      refine one_ (i := 6) (N := some 160) #[true, true, true, true, true, true, true, true, true, true, true, true, false, false] rfl rfl (one_of HT_.out (by kernel_rfl)) (by decide) (fun K hK => ?_)
                                      refine goes_ Try.func34 (by kernel_rfl) rfl #[.slice Ao25 t410.length co25, .int .i64 (rd t405 x16_5)] (by rfl) rfl rfl (by (try simp only [List.map_toArray, List.map_cons, List.map_nil]); first | done | rfl | (simp only [List.length_drop, List.length_take]; rfl)) ?_
                                      with_reducible refine (laws_lwMany.calls k5 _ _ t410 (rd t405 x16_5) t445 _ ?side1 ?side2 A115.out).mono ?_
                                      (case side1 => repeat (first | exact (Kd.R_reads' HO_414001.out).2.2 | (with_reducible refine Kd.C_alloc ?_ _) | (with_reducible refine Kd.C_drewN ?_ _) | (with_reducible refine Kd.C_drew ?_)))
                                      (case side2 => exact (Kd.R_reads' HO_414001.out).2.1)
                                      rintro e w' ⟨rfl, ⟨nd, rfl⟩⟩
                                      refine ⟨_, rfl, ?_⟩
                                      refine hK.out _ _ ⟨(blk_cell BK413.out 0).trans rfl, (blk_cell BK413.out 1).trans rfl, hHeld.2.2.1, hHeld.2.2.2⟩ (fun hHeld => ?_)
                                      clear hK K
                                      refine norm_ (a' := ?_) ?_ ?_
                                      rotate_left
                                      · show Act.put _ (some 160) _ = _
                                        simp only [Act.put, List.setIfInBounds_toArray, List.set_cons_zero, List.set_cons_succ, i64_w, i32_w]
                                        rfl
                                      refine one_ (i := 12) (N := some 166) #[true, true, true, true, true, true, true, true, true, true, true, true, true, false] rfl rfl (one_of HT_.out (by kernel_rfl)) (by decide) (fun K hK => ?_)
                                      refine goes_ Try.func34 (by kernel_rfl) rfl #[.slice (some ad444) t405.length co20, .int .i64 (rd t405 x16_5)] (by rfl) rfl rfl (by (try simp only [List.map_toArray, List.map_cons, List.map_nil]); first | done | rfl | (simp only [List.length_drop, List.length_take]; rfl)) ?_
                                      with_reducible refine (laws_lwMany.calls k5 _ _ t405 (rd t405 x16_5) t447 _ ?side1 ?side2 A116.out).mono ?_
                                      (case side1 => repeat (first | exact (Kd.R_reads' HO_8.out).2.2 | (with_reducible refine Kd.C_alloc ?_ _) | (with_reducible refine Kd.C_drewN ?_ _) | (with_reducible refine Kd.C_drew ?_)))
                                      (case side2 => exact (Kd.R_reads' HO_8.out).2.1)
                                      rintro e w' ⟨rfl, ⟨nd, rfl⟩⟩
                                      refine ⟨_, rfl, ?_⟩
                                      refine hK.out _ _ ⟨(blk_cell BK413.out 0).trans rfl, (blk_cell BK413.out 1).trans rfl, hHeld.2.2.1, hHeld.2.2.2⟩ (fun hHeld => ?_)
                                      clear hK K
                                      refine norm_ (a' := ?_) ?_ ?_
                                      rotate_left
                                      · show Act.put _ (some 166) _ = _
                                        simp only [Act.put, List.setIfInBounds_toArray, List.set_cons_zero, List.set_cons_succ, i64_w, i32_w]
                                        rfl
                                      refine pure_ (i := 13) (N := some 167) (v := ?_) (a' := ?_) #[true, true, true, true, true, true, true, true, true, true, true, true, true, true] rfl rfl (any_of HT_.out (by kernel_rfl)) (fun _ _ _ h => h) (Or.inl ⟨by rfl, ?_⟩) ?_ ?_
                                      rotate_left
                                      · intro w'
                                        go_simp
                                        with_reducible rfl
                                      rotate_left
                                      · simp only [Act.put, List.setIfInBounds_toArray, List.set_cons_zero, List.set_cons_succ, i64_w, i32_w]
                                        rfl
                                      refine done_ (done_of HT_.out (by kernel_rfl)) ?_
                                      try go_wp2
                                      go_roundg k5
                                      case measure => have := HJ2.out; have := HJ13.out; have := HJ87.out; have := HJ108.out; have := HK5.out; omega
                                      case rel => exact ⟨(wrap64 (x16_5 + 1)), (by first | rfl | (simp; done) | (simp [*]; done)), H', ⟨by have := HJ2.out; have := HJ13.out; have := HJ87.out; have := HJ108.out; have := HK5.out; omega⟩, ⟨by (with_reducible repeat (first | apply Kd.R_alloc | apply Kd.R_drewN | apply Kd.R_drew)); exact HO_8.out⟩, ⟨by (with_reducible repeat (first | apply Kd.R_alloc | apply Kd.R_drewN | apply Kd.R_drew)); exact HO_12.out⟩, ⟨by (with_reducible repeat (first | apply Kd.R_alloc | apply Kd.R_drewN | apply Kd.R_drew)); exact HO_14.out⟩, ⟨by (with_reducible repeat (first | apply Kd.R_alloc | apply Kd.R_drewN | apply Kd.R_drew)); exact HO_15.out⟩, ⟨by (with_reducible repeat (first | apply Kd.R_alloc | apply Kd.R_drewN | apply Kd.R_drew)); exact HO_414001.out⟩, ⟨by (with_reducible repeat (first | apply Kd.R_alloc | apply Kd.R_drewN | apply Kd.R_drew)); exact HO_419001.out⟩, ⟨by (with_reducible repeat (first | refine blk_drewN ?_ _ | refine blk_drew ?_ | refine blk_alloc ?_ _)); exact BK404.out⟩, ⟨by (with_reducible repeat (first | refine blk_drewN ?_ _ | refine blk_drew ?_ | refine blk_alloc ?_ _)); exact BK413.out⟩, ⟨by (with_reducible repeat (first | refine blk_drewN ?_ _ | refine blk_drew ?_ | refine blk_alloc ?_ _)); exact BK418.out⟩, ⟨by repeat (first | (with_reducible first | exact HB.out | apply below_alloc | apply pw_below_drewN | apply below_drew1 | refine below_set ?_ GE404.out | refine below_set ?_ GE413.out | refine below_set ?_ GE418.out) | exact HB.out)⟩⟩
                                    · rw [if_neg c117] at H
                                      have c117b0 : (t445 == t447) = false := beq_eq_false_iff_ne.mpr c117
                                      have c117b1 : (t445 != t447) = true := bne_iff_ne.mpr c117
                                      exact absurd ((Option.some.inj H).trans HT_.out) (by decide)
                                  · rw [if_neg c114] at H
                                    exact absurd H (by simp)
                                · rw [if_neg c113] at H
                                  have c113b0 : decide (x16_5 < (t405.length : Int)) = false := decide_eq_false c113
                                  clear c113
                                  (first | rw [c113b0] | (simp only [i64_w, i32_w]; rw [c113b0]) | skip)
                                  have H' := Aside0.mk H
                                  clear H
                                  go_wp2
                                  go_meet
                                  case rel => exact ⟨_, H', ⟨by have := HJ2.out; have := HJ13.out; have := HJ87.out; have := HJ108.out; have := HK5.out; first | omega | exact Nat.le_refl _⟩, ⟨by (with_reducible repeat (first | apply Kd.R_alloc | apply Kd.R_drewN | apply Kd.R_drew)); exact Kd.R_mono HO_12.out (fun _ hk => ⟨hk.2.1, ⟨hk.2.2.1, ⟨hk.2.2.2.1, hk.2.2.2.2⟩⟩⟩)⟩, ⟨by (with_reducible repeat (first | apply Kd.R_alloc | apply Kd.R_drewN | apply Kd.R_drew)); exact Kd.R_mono HO_14.out (fun _ hk => ⟨hk.2.1, ⟨hk.2.2.1, ⟨hk.2.2.2.1, hk.2.2.2.2⟩⟩⟩)⟩, ⟨by (with_reducible repeat (first | apply Kd.R_alloc | apply Kd.R_drewN | apply Kd.R_drew)); exact Kd.R_mono HO_15.out (fun _ hk => ⟨hk.2.1, ⟨hk.2.2.1, ⟨hk.2.2.2.1, hk.2.2.2.2⟩⟩⟩)⟩, ⟨by (with_reducible repeat (first | apply Kd.R_alloc | apply Kd.R_drewN | apply Kd.R_drew)); exact Kd.R_mono HO_414001.out (fun _ hk => ⟨hk.2.1, ⟨hk.2.2.1, ⟨hk.2.2.2.1, hk.2.2.2.2⟩⟩⟩)⟩, ⟨by (with_reducible repeat (first | apply Kd.R_alloc | apply Kd.R_drewN | apply Kd.R_drew)); exact Kd.R_mono HO_419001.out (fun _ hk => ⟨hk.2.1, ⟨hk.2.2.1, ⟨hk.2.2.2.1, hk.2.2.2.2⟩⟩⟩)⟩, ⟨by (with_reducible repeat (first | refine blk_drewN ?_ _ | refine blk_drew ?_ | refine blk_alloc ?_ _)); exact BK404.out⟩, ⟨by (with_reducible repeat (first | refine blk_drewN ?_ _ | refine blk_drew ?_ | refine blk_alloc ?_ _)); exact BK413.out⟩, ⟨by (with_reducible repeat (first | refine blk_drewN ?_ _ | refine blk_drew ?_ | refine blk_alloc ?_ _)); exact BK418.out⟩, ⟨by repeat (first | (with_reducible first | exact HB.out | apply below_alloc | apply pw_below_drewN | apply below_drew1 | refine below_set ?_ GE404.out | refine below_set ?_ GE413.out | refine below_set ?_ GE418.out) | exact HB.out)⟩⟩
                          · replace c112 := Bool.eq_false_iff.mpr c112
                            subst c112
                            have H1 : (laws_FnChance.j5 kj108 t419 t420 t423 t426) = some r := by rw [if_neg (show ¬ (false = true) by decide)] at H; exact H
                            clear H
                            have H := H1
                            clear H1
                            have H' := Aside0.mk H
                            clear H
                            go_wp2
                            go_meet
                            case rel => exact ⟨_, H', ⟨by have := HJ2.out; have := HJ13.out; have := HJ87.out; have := HJ108.out; first | omega | exact Nat.le_refl _⟩, ⟨by (with_reducible repeat (first | apply Kd.R_alloc | apply Kd.R_drewN | apply Kd.R_drew)); exact Kd.R_mono HO_12.out (fun _ hk => ⟨hk.2.1, ⟨hk.2.2.1, ⟨hk.2.2.2.1, hk.2.2.2.2⟩⟩⟩)⟩, ⟨by (with_reducible repeat (first | apply Kd.R_alloc | apply Kd.R_drewN | apply Kd.R_drew)); exact Kd.R_mono HO_14.out (fun _ hk => ⟨hk.2.1, ⟨hk.2.2.1, ⟨hk.2.2.2.1, hk.2.2.2.2⟩⟩⟩)⟩, ⟨by (with_reducible repeat (first | apply Kd.R_alloc | apply Kd.R_drewN | apply Kd.R_drew)); exact Kd.R_mono HO_15.out (fun _ hk => ⟨hk.2.1, ⟨hk.2.2.1, ⟨hk.2.2.2.1, hk.2.2.2.2⟩⟩⟩)⟩, ⟨by (with_reducible repeat (first | apply Kd.R_alloc | apply Kd.R_drewN | apply Kd.R_drew)); exact Kd.R_mono HO_414001.out (fun _ hk => ⟨hk.2.1, ⟨hk.2.2.1, ⟨hk.2.2.2.1, hk.2.2.2.2⟩⟩⟩)⟩, ⟨by (with_reducible repeat (first | apply Kd.R_alloc | apply Kd.R_drewN | apply Kd.R_drew)); exact Kd.R_mono HO_419001.out (fun _ hk => ⟨hk.2.1, ⟨hk.2.2.1, ⟨hk.2.2.2.1, hk.2.2.2.2⟩⟩⟩)⟩, ⟨by (with_reducible repeat (first | refine blk_drewN ?_ _ | refine blk_drew ?_ | refine blk_alloc ?_ _)); exact BK404.out⟩, ⟨by (with_reducible repeat (first | refine blk_drewN ?_ _ | refine blk_drew ?_ | refine blk_alloc ?_ _)); exact BK413.out⟩, ⟨by (with_reducible repeat (first | refine blk_drewN ?_ _ | refine blk_drew ?_ | refine blk_alloc ?_ _)); exact BK418.out⟩, ⟨by repeat (first | (with_reducible first | exact HB.out | apply below_alloc | apply pw_below_drewN | apply below_drew1 | refine below_set ?_ GE404.out | refine below_set ?_ GE413.out | refine below_set ?_ GE418.out) | exact HB.out)⟩⟩
                        case rest =>
                          as_aux_lemma =>
                          clear HC111
                          try clear c1
                          try clear p2
                          try clear c3
                          try clear c4
                          try clear p4
                          try clear q4
                          try clear hx4
                          try clear p6
                          try clear c8
                          try clear c9
                          try clear c10
                          try clear c11
                          try clear c31
                          try clear c34
                          try clear c40
                          try clear c40b0
                          try clear c40b1
                          try clear c43
                          try clear p44
                          try clear q44
                          try clear hx44
                          try clear p64
                          try clear c87
                          try clear c89
                          try clear c89b0
                          try clear c90
                          try clear c90b0
                          try clear c91
                          try clear c91b0
                          try clear c92
                          try clear c92b0
                          try clear c93
                          try clear c93b0
                          try clear c94
                          try clear c95
                          try clear c97
                          try clear c97b0
                          try clear c98
                          try clear c99
                          try clear c101
                          try clear c101b0
                          try clear c102
                          try clear c103
                          try clear c105
                          try clear c106
                          try clear c108
                          try clear c110
                          try clear c110b0
                          try clear c112
                          try clear c113
                          try clear c113b0
                          try clear c114
                          try clear c114b0
                          try clear c117
                          try clear c117b0
                          try clear c117b1
                          try clear hcz100_0
                          try clear hcz100_1
                          try clear hcz104_0
                          try clear hcz104_1
                          try clear hcz107_0
                          try clear hcz107_1
                          try clear hcz96_0
                          try clear hcz96_1
                          try clear hfz100_0
                          try clear hfz100_1
                          try clear hfz104_0
                          try clear hfz104_1
                          try clear hfz107_0
                          try clear hfz107_1
                          try clear hfz96_0
                          try clear hfz96_1
                          try clear hx444_0
                          try clear hx446_0
                          try clear p2
                          try clear p444
                          try clear p446
                          try clear q444
                          try clear q446
                          obtain ⟨kq, HA, HJ110, HO_12, HO_14, HO_15, HO_414001, HO_419001, BK404, BK413, BK418, HB⟩ := hcut
                          cases kq with
                          | zero => exact absurd HA.out (by simp [laws_FnChance.j5])
                          | succ kj110 =>
                            have H := HA.out
                            clear HA
                            simp only [laws_FnChance.j5] at H
                            have HC119 := Aside0.mk H
                            clear H
                            go_upto_region 20 with (fail)
                            go_cut [175] (fun v175 wc => ∃ (kq : Nat) (x175_118 : Bool), v175 = .bool x175_118 ∧ Aside0 (laws_FnChance.j6 kq t420 t423 t426 x175_118 = some r) ∧ Aside0 (kq ≤ kj110) ∧ Aside0 (Kd.R (Kd.int .i64) 2 wc w.heap.size (fun k_ => some k_ ≠ (v427 : Value).ownBlock ∧ some k_ ≠ ((.slice Ao25 t410.length co25) : Value).ownBlock ∧ some k_ ≠ ((.slice Ao31 t415.length co31) : Value).ownBlock) v424 t423) ∧ Aside0 (Kd.R (Kd.int .i64) 2 wc w.heap.size (fun k_ => some k_ ≠ (v424 : Value).ownBlock ∧ some k_ ≠ ((.slice Ao25 t410.length co25) : Value).ownBlock ∧ some k_ ≠ ((.slice Ao31 t415.length co31) : Value).ownBlock) v427 t426) ∧ Aside0 (Kd.R (Kd.int .i64) 2 wc w.heap.size (fun k_ => some k_ ≠ (v424 : Value).ownBlock ∧ some k_ ≠ (v427 : Value).ownBlock ∧ some k_ ≠ ((.slice Ao31 t415.length co31) : Value).ownBlock) (.slice Ao25 t410.length co25) t410) ∧ Aside0 (Kd.R (Kd.int .i64) 2 wc w.heap.size (fun k_ => some k_ ≠ (v424 : Value).ownBlock ∧ some k_ ≠ (v427 : Value).ownBlock ∧ some k_ ≠ ((.slice Ao25 t410.length co25) : Value).ownBlock) (.slice Ao31 t415.length co31) t415) ∧ Aside0 (wc.heap[gb404]? = some (.cells #[.int .i64 t402, .int .i64 t403] 60 (0, 0))) ∧ Aside0 (wc.heap[gb413]? = some (.cells #[.int .i64 t409, (.slice Ao25 t410.length co25)] 51 (0, 0))) ∧ Aside0 (wc.heap[gb418]? = some (.cells #[.int .i64 t414, (.slice Ao31 t415.length co31)] 51 (0, 0))) ∧ Aside0 (Below w.heap.size w wc))
                            case first =>
                              as_aux_lemma =>
                              have H := HC119.out
                              clear HC119
                              replace H := Option.bind_eq_some_iff.mp H
                              obtain ⟨t448, A1200, H⟩ := H
                              replace H : (if t448 = true then (laws_FnChance.j6 kj110 t420 t423 t426 (decide ((t419.length : Int) ≥ 400))) else (laws_FnChance.j6 kj110 t420 t423 t426 true)) = some r := H
                              have A120 := Aside0.mk A1200
                              clear A1200
                              by_cases c121 : t448 = true
                              · subst c121
                                have H1 : (laws_FnChance.j6 kj110 t420 t423 t426 (decide ((t419.length : Int) ≥ 400))) = some r := by rw [if_pos rfl] at H; exact H
                                clear H
                                have H := H1
                                clear H1
                                have H' := Aside0.mk H
                                clear H
                                go_wp2_with (first | ((with_reducible refine gate_callee (f := 49) rfl ?_); refine goesL_ (some 169) rfl rfl Try.func49 (by kernel_rfl) rfl #[.slice Ao33 t419.length co33] rfl (by (try simp only [List.map_toArray, List.map_cons, List.map_nil]); first | done | rfl | (simp only [List.length_drop, List.length_take]; rfl)) ?_; (with_reducible refine (spec_SetRight.calls kj110 _ _ t419 true _ ?side1 ?side2 A120.out).mono ?_); (case side1 => repeat (first | exact (Kd.R_reads' HO_12.out).2.2 | (with_reducible refine Kd.C_alloc ?_ _) | (with_reducible refine Kd.C_drewN ?_ _) | (with_reducible refine Kd.C_drew ?_))); (case side2 => exact (Kd.R_reads' HO_12.out).2.1); rintro e w' ⟨rfl, ⟨nd, rfl⟩⟩; refine ⟨_, rfl, ?_⟩))
                                go_meet
                                case rel => exact ⟨_, (decide ((t419.length : Int) ≥ 400)), (by first | rfl | (simp; done) | (simp [*]; done)), H', ⟨by have := HJ2.out; have := HJ13.out; have := HJ87.out; have := HJ108.out; have := HJ110.out; first | omega | exact Nat.le_refl _⟩, ⟨by (with_reducible repeat (first | apply Kd.R_alloc | apply Kd.R_drewN | apply Kd.R_drew)); exact Kd.R_mono HO_14.out (fun _ hk => ⟨hk.2.1, ⟨hk.2.2.1, hk.2.2.2⟩⟩)⟩, ⟨by (with_reducible repeat (first | apply Kd.R_alloc | apply Kd.R_drewN | apply Kd.R_drew)); exact Kd.R_mono HO_15.out (fun _ hk => ⟨hk.2.1, ⟨hk.2.2.1, hk.2.2.2⟩⟩)⟩, ⟨by (with_reducible repeat (first | apply Kd.R_alloc | apply Kd.R_drewN | apply Kd.R_drew)); exact Kd.R_mono HO_414001.out (fun _ hk => ⟨hk.2.1, ⟨hk.2.2.1, hk.2.2.2⟩⟩)⟩, ⟨by (with_reducible repeat (first | apply Kd.R_alloc | apply Kd.R_drewN | apply Kd.R_drew)); exact Kd.R_mono HO_419001.out (fun _ hk => ⟨hk.2.1, ⟨hk.2.2.1, hk.2.2.2⟩⟩)⟩, ⟨by (with_reducible repeat (first | refine blk_drewN ?_ _ | refine blk_drew ?_ | refine blk_alloc ?_ _)); exact BK404.out⟩, ⟨by (with_reducible repeat (first | refine blk_drewN ?_ _ | refine blk_drew ?_ | refine blk_alloc ?_ _)); exact BK413.out⟩, ⟨by (with_reducible repeat (first | refine blk_drewN ?_ _ | refine blk_drew ?_ | refine blk_alloc ?_ _)); exact BK418.out⟩, ⟨by repeat (first | (with_reducible first | exact HB.out | apply below_alloc | apply pw_below_drewN | apply below_drew1 | refine below_set ?_ GE404.out | refine below_set ?_ GE413.out | refine below_set ?_ GE418.out) | exact HB.out)⟩⟩
                              · replace c121 := Bool.eq_false_iff.mpr c121
                                subst c121
                                have H1 : (laws_FnChance.j6 kj110 t420 t423 t426 true) = some r := by rw [if_neg (show ¬ (false = true) by decide)] at H; exact H
                                clear H
                                have H := H1
                                clear H1
                                have H' := Aside0.mk H
                                clear H
                                go_wp2_with (first | ((with_reducible refine gate_callee (f := 49) rfl ?_); refine goesL_ (some 169) rfl rfl Try.func49 (by kernel_rfl) rfl #[.slice Ao33 t419.length co33] rfl (by (try simp only [List.map_toArray, List.map_cons, List.map_nil]); first | done | rfl | (simp only [List.length_drop, List.length_take]; rfl)) ?_; (with_reducible refine (spec_SetRight.calls kj110 _ _ t419 false _ ?side1 ?side2 A120.out).mono ?_); (case side1 => repeat (first | exact (Kd.R_reads' HO_12.out).2.2 | (with_reducible refine Kd.C_alloc ?_ _) | (with_reducible refine Kd.C_drewN ?_ _) | (with_reducible refine Kd.C_drew ?_))); (case side2 => exact (Kd.R_reads' HO_12.out).2.1); rintro e w' ⟨rfl, ⟨nd, rfl⟩⟩; refine ⟨_, rfl, ?_⟩))
                                go_meet
                                case rel => exact ⟨_, (true), (by first | rfl | (simp; done) | (simp [*]; done)), H', ⟨by have := HJ2.out; have := HJ13.out; have := HJ87.out; have := HJ108.out; have := HJ110.out; first | omega | exact Nat.le_refl _⟩, ⟨by (with_reducible repeat (first | apply Kd.R_alloc | apply Kd.R_drewN | apply Kd.R_drew)); exact Kd.R_mono HO_14.out (fun _ hk => ⟨hk.2.1, ⟨hk.2.2.1, hk.2.2.2⟩⟩)⟩, ⟨by (with_reducible repeat (first | apply Kd.R_alloc | apply Kd.R_drewN | apply Kd.R_drew)); exact Kd.R_mono HO_15.out (fun _ hk => ⟨hk.2.1, ⟨hk.2.2.1, hk.2.2.2⟩⟩)⟩, ⟨by (with_reducible repeat (first | apply Kd.R_alloc | apply Kd.R_drewN | apply Kd.R_drew)); exact Kd.R_mono HO_414001.out (fun _ hk => ⟨hk.2.1, ⟨hk.2.2.1, hk.2.2.2⟩⟩)⟩, ⟨by (with_reducible repeat (first | apply Kd.R_alloc | apply Kd.R_drewN | apply Kd.R_drew)); exact Kd.R_mono HO_419001.out (fun _ hk => ⟨hk.2.1, ⟨hk.2.2.1, hk.2.2.2⟩⟩)⟩, ⟨by (with_reducible repeat (first | refine blk_drewN ?_ _ | refine blk_drew ?_ | refine blk_alloc ?_ _)); exact BK404.out⟩, ⟨by (with_reducible repeat (first | refine blk_drewN ?_ _ | refine blk_drew ?_ | refine blk_alloc ?_ _)); exact BK413.out⟩, ⟨by (with_reducible repeat (first | refine blk_drewN ?_ _ | refine blk_drew ?_ | refine blk_alloc ?_ _)); exact BK418.out⟩, ⟨by repeat (first | (with_reducible first | exact HB.out | apply below_alloc | apply pw_below_drewN | apply below_drew1 | refine below_set ?_ GE404.out | refine below_set ?_ GE413.out | refine below_set ?_ GE418.out) | exact HB.out)⟩⟩
                            case rest =>
                              as_aux_lemma =>
                              clear HC119
                              try clear c1
                              try clear p2
                              try clear c3
                              try clear c4
                              try clear p4
                              try clear q4
                              try clear hx4
                              try clear p6
                              try clear c8
                              try clear c9
                              try clear c10
                              try clear c11
                              try clear c12
                              try clear c31
                              try clear c34
                              try clear c40
                              try clear c40b0
                              try clear c40b1
                              try clear c43
                              try clear p44
                              try clear q44
                              try clear hx44
                              try clear c49
                              try clear p64
                              try clear c87
                              try clear c89
                              try clear c89b0
                              try clear c90
                              try clear c90b0
                              try clear c91
                              try clear c91b0
                              try clear c92
                              try clear c92b0
                              try clear c93
                              try clear c93b0
                              try clear c94
                              try clear c95
                              try clear c97
                              try clear c97b0
                              try clear c98
                              try clear c99
                              try clear c101
                              try clear c101b0
                              try clear c102
                              try clear c103
                              try clear c105
                              try clear c106
                              try clear c108
                              try clear c110
                              try clear c110b0
                              try clear c112
                              try clear c113
                              try clear c113b0
                              try clear c114
                              try clear c114b0
                              try clear c117
                              try clear c117b0
                              try clear c117b1
                              try clear c121
                              try clear hcz100_0
                              try clear hcz100_1
                              try clear hcz104_0
                              try clear hcz104_1
                              try clear hcz107_0
                              try clear hcz107_1
                              try clear hcz96_0
                              try clear hcz96_1
                              try clear hfz100_0
                              try clear hfz100_1
                              try clear hfz104_0
                              try clear hfz104_1
                              try clear hfz107_0
                              try clear hfz107_1
                              try clear hfz96_0
                              try clear hfz96_1
                              try clear hx444_0
                              try clear hx446_0
                              try clear p2
                              try clear p4
                              try clear p44
                              try clear p444
                              try clear p446
                              try clear p6
                              try clear p64
                              try clear q4
                              try clear q44
                              try clear q444
                              try clear q446
                              obtain ⟨kq, x175_118, rfl, HA, HJ118, HO_14, HO_15, HO_414001, HO_419001, BK404, BK413, BK418, HB⟩ := hcut
                              cases kq with
                              | zero => exact absurd HA.out (by simp [laws_FnChance.j6])
                              | succ kj118 =>
                                have H := HA.out
                                clear HA
                                simp only [laws_FnChance.j6] at H
                                by_cases c122 : x175_118 = true
                                · subst c122
                                  have H1 : (some true) = some r := by rw [if_pos rfl] at H; exact H
                                  clear H
                                  have H := H1
                                  clear H1
                                  obtain rfl := Option.some.inj H
                                  go_wp2
                                  go_ret
                                  exact ⟨by first | rfl | (simp [errW_none, errW_some] <;> rfl) | (simp [*, errW_none, errW_some] <;> rfl), by repeat (first | (with_reducible first | exact HB.out | apply below_alloc | apply pw_below_drewN | apply below_drew1 | refine below_set ?_ GE404.out | refine below_set ?_ GE413.out | refine below_set ?_ GE418.out) | exact HB.out)⟩
                                · replace c122 := Bool.eq_false_iff.mpr c122
                                  subst c122
                                  have H1 : ((impl_SetHas.f kj118 t423 t420).bind fun t449 => (if t449 = true then ((impl_SetHas.f kj118 t426 t420).bind fun t450 => (if t450 = true then (some false) else ((impl_SetDrop.f kj118 t423 t420).bind fun t451 => ((laws_lwNums.f kj118 t451 t426).bind fun t454 => (if t454 = true then ((impl_SetPut.f kj118 t426 t420).bind fun t455 => ((laws_lwNums.f kj118 t455 t423).bind fun t458 => (some t458))) else (some false)))))) else (some false))) = some r := by rw [if_neg (show ¬ (false = true) by decide)] at H; exact H
                                  clear H
                                  have H := H1
                                  clear H1
                                  replace H := Option.bind_eq_some_iff.mp H
                                  obtain ⟨t449, A1230, H⟩ := H
                                  replace H : (if t449 = true then ((impl_SetHas.f kj118 t426 t420).bind fun t450 => (if t450 = true then (some false) else ((impl_SetDrop.f kj118 t423 t420).bind fun t451 => ((laws_lwNums.f kj118 t451 t426).bind fun t454 => (if t454 = true then ((impl_SetPut.f kj118 t426 t420).bind fun t455 => ((laws_lwNums.f kj118 t455 t423).bind fun t458 => (some t458))) else (some false)))))) else (some false)) = some r := H
                                  have A123 := Aside0.mk A1230
                                  clear A1230
                                  by_cases c124 : t449 = true
                                  · subst c124
                                    have H1 : ((impl_SetHas.f kj118 t426 t420).bind fun t450 => (if t450 = true then (some false) else ((impl_SetDrop.f kj118 t423 t420).bind fun t451 => ((laws_lwNums.f kj118 t451 t426).bind fun t454 => (if t454 = true then ((impl_SetPut.f kj118 t426 t420).bind fun t455 => ((laws_lwNums.f kj118 t455 t423).bind fun t458 => (some t458))) else (some false)))))) = some r := by rw [if_pos rfl] at H; exact H
                                    clear H
                                    have H := H1
                                    clear H1
                                    replace H := Option.bind_eq_some_iff.mp H
                                    obtain ⟨t450, A1250, H⟩ := H
                                    replace H : (if t450 = true then (some false) else ((impl_SetDrop.f kj118 t423 t420).bind fun t451 => ((laws_lwNums.f kj118 t451 t426).bind fun t454 => (if t454 = true then ((impl_SetPut.f kj118 t426 t420).bind fun t455 => ((laws_lwNums.f kj118 t455 t423).bind fun t458 => (some t458))) else (some false))))) = some r := H
                                    have A125 := Aside0.mk A1250
                                    clear A1250
                                    by_cases c126 : t450 = true
                                    · subst c126
                                      have H1 : (some false) = some r := by rw [if_pos rfl] at H; exact H
                                      clear H
                                      have H := H1
                                      clear H1
                                      exact absurd ((Option.some.inj H).trans HT_.out) (by decide)
                                    · replace c126 := Bool.eq_false_iff.mpr c126
                                      subst c126
                                      have H1 : ((impl_SetDrop.f kj118 t423 t420).bind fun t451 => ((laws_lwNums.f kj118 t451 t426).bind fun t454 => (if t454 = true then ((impl_SetPut.f kj118 t426 t420).bind fun t455 => ((laws_lwNums.f kj118 t455 t423).bind fun t458 => (some t458))) else (some false)))) = some r := by rw [if_neg (show ¬ (false = true) by decide)] at H; exact H
                                      clear H
                                      have H := H1
                                      clear H1
                                      replace H := Option.bind_eq_some_iff.mp H
                                      obtain ⟨t451, A1270, H⟩ := H
                                      replace H : ((laws_lwNums.f kj118 t451 t426).bind fun t454 => (if t454 = true then ((impl_SetPut.f kj118 t426 t420).bind fun t455 => ((laws_lwNums.f kj118 t455 t423).bind fun t458 => (some t458))) else (some false))) = some r := H
                                      have A127 := Aside0.mk A1270
                                      clear A1270
                                      replace H := Option.bind_eq_some_iff.mp H
                                      obtain ⟨t454, A1280, H⟩ := H
                                      replace H : (if t454 = true then ((impl_SetPut.f kj118 t426 t420).bind fun t455 => ((laws_lwNums.f kj118 t455 t423).bind fun t458 => (some t458))) else (some false)) = some r := H
                                      have A128 := Aside0.mk A1280
                                      clear A1280
                                      by_cases c129 : t454 = true
                                      · subst c129
                                        have H1 : ((impl_SetPut.f kj118 t426 t420).bind fun t455 => ((laws_lwNums.f kj118 t455 t423).bind fun t458 => (some t458))) = some r := by rw [if_pos rfl] at H; exact H
                                        clear H
                                        have H := H1
                                        clear H1
                                        replace H := Option.bind_eq_some_iff.mp H
                                        obtain ⟨t455, A1300, H⟩ := H
                                        replace H : ((laws_lwNums.f kj118 t455 t423).bind fun t458 => (some t458)) = some r := H
                                        have A130 := Aside0.mk A1300
                                        clear A1300
                                        replace H := Option.bind_eq_some_iff.mp H
                                        obtain ⟨t458, A1310, H⟩ := H
                                        replace H : (some t458) = some r := H
                                        have A131 := Aside0.mk A1310
                                        clear A1310
                                        obtain rfl := Option.some.inj H
                                        obtain ⟨Ao132, co132, eo132⟩ := Kd.R_slice HO_14.out
                                        subst eo132
                                        go_wp2_with (first | ((with_reducible refine gate_callee (f := 46) rfl ?_); refine goesL_ (some 178) rfl rfl Try.func46 (by kernel_rfl) rfl #[.slice Ao132 t423.length co132, .int .i64 t420] rfl (by (try simp only [List.map_toArray, List.map_cons, List.map_nil]); first | done | rfl | (simp only [List.length_drop, List.length_take]; rfl)) ?_; (with_reducible refine (impl_SetHas.calls kj118 _ _ t423 t420 true _ ?side1 ?side2 A123.out).mono ?_); (case side1 => repeat (first | exact (Kd.R_reads' HO_14.out).2.2 | (with_reducible refine Kd.C_alloc ?_ _) | (with_reducible refine Kd.C_drewN ?_ _) | (with_reducible refine Kd.C_drew ?_))); (case side2 => exact (Kd.R_reads' HO_14.out).2.1); rintro e w' ⟨rfl, ⟨nd, rfl⟩⟩; refine ⟨_, rfl, ?_⟩; obtain ⟨Ao133, co133, eo133⟩ := Kd.R_slice HO_15.out; subst eo133) | (go_at_call 46; (with_reducible refine (impl_SetHas.calls kj118 _ _ t426 t420 false _ ?side1 ?side2 A125.out).mono ?_); (case side1 => repeat (first | exact (Kd.R_reads' HO_15.out).2.2 | (with_reducible refine Kd.C_alloc ?_ _) | (with_reducible refine Kd.C_drewN ?_ _) | (with_reducible refine Kd.C_drew ?_))); (case side2 => exact (Kd.R_reads' HO_15.out).2.1); rintro e w' ⟨rfl, ⟨nd, rfl⟩⟩) | (go_at_call 42; (with_reducible refine (impl_SetDrop.calls kj118 _ _ t423 t420 t451 _ ?side1 ?side2 A127.out).mono ?_); (case side1 => repeat (first | exact (Kd.R_reads' HO_14.out).2.2 | (with_reducible refine Kd.C_alloc ?_ _) | (with_reducible refine Kd.C_drewN ?_ _) | (with_reducible refine Kd.C_drew ?_))); (case side2 => exact (Kd.R_reads' HO_14.out).2.1); rintro e w134 ⟨v452, rfl, ho0, hb⟩; have n0_ := Aside0.mk (Kd.R_elder' (by (with_reducible repeat (first | apply Kd.R_alloc | apply Kd.R_drewN | apply Kd.R_drew)); exact HO_14.out) (Kd.R_base ho0) hb); have n1_ := Aside0.mk (Kd.R_elder' (by (with_reducible repeat (first | apply Kd.R_alloc | apply Kd.R_drewN | apply Kd.R_drew)); exact HO_15.out) (Kd.R_base ho0) hb); have n2_ := Aside0.mk (Kd.R_elder' (by (with_reducible repeat (first | apply Kd.R_alloc | apply Kd.R_drewN | apply Kd.R_drew)); exact HO_414001.out) (Kd.R_base ho0) hb); have n3_ := Aside0.mk (Kd.R_elder' (by (with_reducible repeat (first | apply Kd.R_alloc | apply Kd.R_drewN | apply Kd.R_drew)); exact HO_419001.out) (Kd.R_base ho0) hb); have n4_ := Aside0.mk (Kd.R_lower (Kd.R_new' (Kd.R_new' (Kd.R_new' (Kd.R_new' ho0 (Kd.R_lt (by (with_reducible repeat (first | apply Kd.R_alloc | apply Kd.R_drewN | apply Kd.R_drew)); exact HO_14.out))) (Kd.R_lt (by (with_reducible repeat (first | apply Kd.R_alloc | apply Kd.R_drewN | apply Kd.R_drew)); exact HO_15.out))) (Kd.R_lt (by (with_reducible repeat (first | apply Kd.R_alloc | apply Kd.R_drewN | apply Kd.R_drew)); exact HO_414001.out))) (Kd.R_lt (by (with_reducible repeat (first | apply Kd.R_alloc | apply Kd.R_drewN | apply Kd.R_drew)); exact HO_419001.out))) (below_size (by repeat (first | (with_reducible first | exact HB.out | apply below_alloc | apply pw_below_drewN | apply below_drew1 | refine below_set ?_ GE404.out | refine below_set ?_ GE413.out | refine below_set ?_ GE418.out) | exact HB.out)))); have n5_ := Aside0.mk (blk_below (g := gb404) (o := .cells #[.int .i64 t402, .int .i64 t403] 60 (0, 0)) (by (with_reducible repeat (first | refine blk_drewN ?_ _ | refine blk_drew ?_ | refine blk_alloc ?_ _)); exact BK404.out) hb); have n6_ := Aside0.mk (blk_below (g := gb413) (o := .cells #[.int .i64 t409, .slice Ao25 t410.length co25] 51 (0, 0)) (by (with_reducible repeat (first | refine blk_drewN ?_ _ | refine blk_drew ?_ | refine blk_alloc ?_ _)); exact BK413.out) hb); have n7_ := Aside0.mk (blk_below (g := gb418) (o := .cells #[.int .i64 t414, .slice Ao31 t415.length co31] 51 (0, 0)) (by (with_reducible repeat (first | refine blk_drewN ?_ _ | refine blk_drew ?_ | refine blk_alloc ?_ _)); exact BK418.out) hb); have n8_ := Aside0.mk (below_step (by repeat (first | (with_reducible first | exact HB.out | apply below_alloc | apply pw_below_drewN | apply below_drew1 | refine below_set ?_ GE404.out | refine below_set ?_ GE413.out | refine below_set ?_ GE418.out) | exact HB.out)) hb); clear HO_14; clear HO_15; clear HO_414001; clear HO_419001; clear BK404; clear BK413; clear BK418; clear HB; have HO_14 := n0_; have HO_15 := n1_; have HO_414001 := n2_; have HO_419001 := n3_; have HO453 := n4_; have BK404 := n5_; have BK413 := n6_; have BK418 := n7_; have HB := n8_; clear n0_ n1_ n2_ n3_ n4_ n5_ n6_ n7_ n8_; (try clear hb); (try clear hb2); (try clear hk); (try clear hi); (try clear ho0); obtain ⟨Ao135, co135, eo135⟩ := Kd.R_slice HO453.out; subst eo135) | (go_at_call 31; (with_reducible refine (laws_lwNums.calls kj118 _ _ t451 _ _ t426 true _ ?side1 ?side2 ?side3 ?side4 A128.out).mono ?_); (case side1 => repeat (first | exact (Kd.R_reads' HO453.out).2.2 | (with_reducible refine Kd.C_alloc ?_ _) | (with_reducible refine Kd.C_drewN ?_ _) | (with_reducible refine Kd.C_drew ?_))); (case side2 => exact (Kd.R_reads' HO453.out).2.1); (case side3 => repeat (first | exact (Kd.R_reads' HO_15.out).2.2 | (with_reducible refine Kd.C_alloc ?_ _) | (with_reducible refine Kd.C_drewN ?_ _) | (with_reducible refine Kd.C_drew ?_))); (case side4 => exact (Kd.R_reads' HO_15.out).2.1); rintro e w' ⟨rfl, ⟨nd, rfl⟩⟩) | (go_at_call 41; (with_reducible refine (impl_SetPut.calls kj118 _ _ t426 t420 t455 _ ?side1 ?side2 A130.out).mono ?_); (case side1 => repeat (first | exact (Kd.R_reads' HO_15.out).2.2 | (with_reducible refine Kd.C_alloc ?_ _) | (with_reducible refine Kd.C_drewN ?_ _) | (with_reducible refine Kd.C_drew ?_))); (case side2 => exact (Kd.R_reads' HO_15.out).2.1); rintro e w136 ⟨v456, rfl, ho0, hb⟩; have n0_ := Aside0.mk (Kd.R_elder' (by (with_reducible repeat (first | apply Kd.R_alloc | apply Kd.R_drewN | apply Kd.R_drew)); exact HO_14.out) (Kd.R_base ho0) hb); have n1_ := Aside0.mk (Kd.R_elder' (by (with_reducible repeat (first | apply Kd.R_alloc | apply Kd.R_drewN | apply Kd.R_drew)); exact HO_15.out) (Kd.R_base ho0) hb); have n2_ := Aside0.mk (Kd.R_elder' (by (with_reducible repeat (first | apply Kd.R_alloc | apply Kd.R_drewN | apply Kd.R_drew)); exact HO_414001.out) (Kd.R_base ho0) hb); have n3_ := Aside0.mk (Kd.R_elder' (by (with_reducible repeat (first | apply Kd.R_alloc | apply Kd.R_drewN | apply Kd.R_drew)); exact HO_419001.out) (Kd.R_base ho0) hb); have n4_ := Aside0.mk (Kd.R_elder' (by (with_reducible repeat (first | apply Kd.R_alloc | apply Kd.R_drewN | apply Kd.R_drew)); exact HO453.out) (Kd.R_base ho0) hb); have n5_ := Aside0.mk (Kd.R_lower (Kd.R_new' (Kd.R_new' (Kd.R_new' (Kd.R_new' (Kd.R_new' ho0 (Kd.R_lt (by (with_reducible repeat (first | apply Kd.R_alloc | apply Kd.R_drewN | apply Kd.R_drew)); exact HO_14.out))) (Kd.R_lt (by (with_reducible repeat (first | apply Kd.R_alloc | apply Kd.R_drewN | apply Kd.R_drew)); exact HO_15.out))) (Kd.R_lt (by (with_reducible repeat (first | apply Kd.R_alloc | apply Kd.R_drewN | apply Kd.R_drew)); exact HO_414001.out))) (Kd.R_lt (by (with_reducible repeat (first | apply Kd.R_alloc | apply Kd.R_drewN | apply Kd.R_drew)); exact HO_419001.out))) (Kd.R_lt (by (with_reducible repeat (first | apply Kd.R_alloc | apply Kd.R_drewN | apply Kd.R_drew)); exact HO453.out))) (below_size (by repeat (first | (with_reducible first | exact HB.out | apply below_alloc | apply pw_below_drewN | apply below_drew1 | refine below_set ?_ GE404.out | refine below_set ?_ GE413.out | refine below_set ?_ GE418.out) | exact HB.out)))); have n6_ := Aside0.mk (blk_below (g := gb404) (o := .cells #[.int .i64 t402, .int .i64 t403] 60 (0, 0)) (by (with_reducible repeat (first | refine blk_drewN ?_ _ | refine blk_drew ?_ | refine blk_alloc ?_ _)); exact BK404.out) hb); have n7_ := Aside0.mk (blk_below (g := gb413) (o := .cells #[.int .i64 t409, .slice Ao25 t410.length co25] 51 (0, 0)) (by (with_reducible repeat (first | refine blk_drewN ?_ _ | refine blk_drew ?_ | refine blk_alloc ?_ _)); exact BK413.out) hb); have n8_ := Aside0.mk (blk_below (g := gb418) (o := .cells #[.int .i64 t414, .slice Ao31 t415.length co31] 51 (0, 0)) (by (with_reducible repeat (first | refine blk_drewN ?_ _ | refine blk_drew ?_ | refine blk_alloc ?_ _)); exact BK418.out) hb); have n9_ := Aside0.mk (below_step (by repeat (first | (with_reducible first | exact HB.out | apply below_alloc | apply pw_below_drewN | apply below_drew1 | refine below_set ?_ GE404.out | refine below_set ?_ GE413.out | refine below_set ?_ GE418.out) | exact HB.out)) hb); clear HO_14; clear HO_15; clear HO_414001; clear HO_419001; clear HO453; clear BK404; clear BK413; clear BK418; clear HB; have HO_14 := n0_; have HO_15 := n1_; have HO_414001 := n2_; have HO_419001 := n3_; have HO453 := n4_; have HO457 := n5_; have BK404 := n6_; have BK413 := n7_; have BK418 := n8_; have HB := n9_; clear n0_ n1_ n2_ n3_ n4_ n5_ n6_ n7_ n8_ n9_; (try clear hb); (try clear hb2); (try clear hk); (try clear hi); (try clear ho0); obtain ⟨Ao137, co137, eo137⟩ := Kd.R_slice HO457.out; subst eo137) | (go_at_call 31; (with_reducible refine (laws_lwNums.calls kj118 _ _ t455 _ _ t423 t458 _ ?side1 ?side2 ?side3 ?side4 A131.out).mono ?_); (case side1 => repeat (first | exact (Kd.R_reads' HO457.out).2.2 | (with_reducible refine Kd.C_alloc ?_ _) | (with_reducible refine Kd.C_drewN ?_ _) | (with_reducible refine Kd.C_drew ?_))); (case side2 => exact (Kd.R_reads' HO457.out).2.1); (case side3 => repeat (first | exact (Kd.R_reads' HO_14.out).2.2 | (with_reducible refine Kd.C_alloc ?_ _) | (with_reducible refine Kd.C_drewN ?_ _) | (with_reducible refine Kd.C_drew ?_))); (case side4 => exact (Kd.R_reads' HO_14.out).2.1); rintro e w' ⟨rfl, ⟨nd, rfl⟩⟩))
                                        go_ret
                                        exact ⟨by first | rfl | (simp [errW_none, errW_some] <;> rfl) | (simp [*, errW_none, errW_some] <;> rfl), by repeat (first | (with_reducible first | exact HB.out | apply below_alloc | apply pw_below_drewN | apply below_drew1 | refine below_set ?_ GE404.out | refine below_set ?_ GE413.out | refine below_set ?_ GE418.out) | exact HB.out)⟩
                                      · replace c129 := Bool.eq_false_iff.mpr c129
                                        subst c129
                                        have H1 : (some false) = some r := by rw [if_neg (show ¬ (false = true) by decide)] at H; exact H
                                        clear H
                                        have H := H1
                                        clear H1
                                        exact absurd ((Option.some.inj H).trans HT_.out) (by decide)
                                  · replace c124 := Bool.eq_false_iff.mpr c124
                                    subst c124
                                    have H1 : (some false) = some r := by rw [if_neg (show ¬ (false = true) by decide)] at H; exact H
                                    clear H
                                    have H := H1
                                    clear H1
                                    exact absurd ((Option.some.inj H).trans HT_.out) (by decide)

end Go.Proofs.Ytkgjikjnciihmaa.PFnChance
