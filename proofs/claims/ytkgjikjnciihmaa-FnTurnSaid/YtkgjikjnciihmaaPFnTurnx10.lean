import Derived.Test.YtkgjikjnciihmaaPFnTurnx0
import Derived.Test.YtkgjikjnciihmaaPFnTurnx2
import Derived.Test.YtkgjikjnciihmaaPFnTurnx3
import Derived.Test.YtkgjikjnciihmaaPFnTurnx5
import Derived.Test.YtkgjikjnciihmaaPFnTurnx7
import Derived.Test.YtkgjikjnciihmaaPFnTurnx8
import Derived.Test.YtkgjikjnciihmaaPFnTurnx9
namespace Go.Proofs.Ytkgjikjnciihmaa.PFnTurn
open Go.RowKit Go.Proofs.YtkgjikjnciihmaaW.PrintWords Go.Proofs.YtkgjikjnciihmaaW.PrintLast Go.Proofs.YtkgjikjnciihmaaW.PrintMore
attribute [local go_sem] max2_int min2_int max_two min_two max_three min_three max_four min_four   -- for this text's walks alone
set_option linter.unusedVariables false
set_option linter.unusedSimpArgs false
mutual
def laws_FnTurn.j0 : Nat → List Int → List Int → Bool → Option (Bool)
  | 0, _, _, _ => none
  | k + 1, x0, x1, x25 => if x25 = true then (some true) else ((spec_DrawTurnNext.f k x0).bind fun bt364 => ((impl_TurnNext.f k bt364.1 bt364.2.1 bt364.2.2.1 bt364.2.2.2).bind fun bt373 => ((spec_DrawSome.f k x1).bind fun bt381 => ((impl_Some.f k bt381.1 bt381.2.1 bt381.2.2).bind fun bt386 => ((spec_Some.f k bt381.1 bt381.2.1 bt381.2.2).bind fun bt390 => ((spec_TurnNext.f k bt364.1 bt364.2.1 bt364.2.2.1 bt364.2.2.2).bind fun bt396 => ((laws_lwTurn.f k bt373.1 bt373.2.1 bt373.2.2.1 bt373.2.2.2.1 bt373.2.2.2.2 bt396.1 bt396.2.1 bt396.2.2.1 bt396.2.2.2.1 bt396.2.2.2.2).bind fun t403 => (if t403 = true then (if bt386.1 = bt390.1 then ((laws_lwNums.f k bt386.2 bt390.2).bind fun t404 => (if t404 = true then ((impl_TurnRight.f k bt364.1 bt364.2.1).bind fun t405 => ((spec_TurnRight.f k bt364.1 bt364.2.1).bind fun t406 => (laws_FnTurn.j1 k bt364.2.2.1 bt381.1 (t405 != t406) bt373.1 bt373.2.1 bt373.2.2.1 bt373.2.2.2.1 bt373.2.2.2.2 bt386.1 bt386.2))) else (laws_FnTurn.j1 k bt364.2.2.1 bt381.1 true bt373.1 bt373.2.1 bt373.2.2.1 bt373.2.2.2.1 bt373.2.2.2.2 bt386.1 bt386.2))) else (laws_FnTurn.j1 k bt364.2.2.1 bt381.1 true bt373.1 bt373.2.1 bt373.2.2.1 bt373.2.2.2.1 bt373.2.2.2.2 bt386.1 bt386.2)) else (laws_FnTurn.j1 k bt364.2.2.1 bt381.1 true bt373.1 bt373.2.1 bt373.2.2.1 bt373.2.2.2.1 bt373.2.2.2.2 bt386.1 bt386.2)))))))))
def laws_FnTurn.j1 : Nat → List Int → List Int → Bool → List Int → Int → Int → Int → Int → Int → List Int → Option (Bool)
  | 0, _, _, _, _, _, _, _, _, _, _ => none
  | k + 1, x6, x9, x78, x381000, x381001, x381002, x381003, x381004, x395000, x395001 => if x78 = true then (some false) else (laws_FnTurn.l0 k x6 x9 0 x381000 x381001 x381002 x381003 x381004 x395000 x395001)
def laws_FnTurn.l0 : Nat → List Int → List Int → Int → List Int → Int → Int → Int → Int → Int → List Int → Option (Bool)
  | 0, _, _, _, _, _, _, _, _, _, _ => none
  | k + 1, x6, x9, x14, x381000, x381001, x381002, x381003, x381004, x395000, x395001 => if x14 < (x395001.length : Int) then (if 0 ≤ x14 then ((laws_lwMany.f k x395001 (rd x395001 x14)).bind fun t408 => (if t408 = 1 then ((laws_lwMany.f k x9 (rd x395001 x14)).bind fun t410 => (if t410 = 1 then (laws_FnTurn.l0 k x6 x9 (wrap64 (x14 + 1)) x381000 x381001 x381002 x381003 x381004 x395000 x395001) else (some false))) else (some false))) else (none)) else (if x381004 = 0 then (laws_FnTurn.l1 k x6 (([] : List Int)) 0 x381000 x381001 x381002 x381003 x381004) else (some true))
def laws_FnTurn.l1 : Nat → List Int → List Int → Int → List Int → Int → Int → Int → Int → Option (Bool)
  | 0, _, _, _, _, _, _, _, _ => none
  | k + 1, x6, x15, x16, x381000, x381001, x381002, x381003, x381004 => if x16 < (wrap64 (3 * (x6.length : Int))) then (if x381004 = 0 then ((laws_lwMany.f k x6 x381002).bind fun t414 => (if t414 = 1 then (if x15.length < 17592186044416 then ((impl_TurnNext.f k x381000 x381001 x6 x381003).bind fun bt418 => (laws_FnTurn.l1 k x6 (x15 ++ [x381002]) (wrap64 (x16 + 1)) bt418.1 bt418.2.1 bt418.2.2.1 bt418.2.2.2.1 bt418.2.2.2.2)) else (none)) else (some false))) else (some false)) else (laws_FnTurn.l2 k x6 x15 0)
def laws_FnTurn.l2 : Nat → List Int → List Int → Int → Option (Bool)
  | 0, _, _, _ => none
  | k + 1, x6, x15, x17 => if x17 < (x6.length : Int) then (if 0 ≤ x17 then ((laws_lwMany.f k x15 (rd x6 x17)).bind fun t426 => (if t426 < 2 then (some false) else (laws_FnTurn.l2 k x6 x15 (wrap64 (x17 + 1))))) else (none)) else (some true)
end
def laws_FnTurn.f (k : Nat) (l0 : List Int) (l1 : List Int) : Option (Bool) := if (l0.length : Int) > 1048576 then (laws_FnTurn.j0 k l0 l1 true) else (laws_FnTurn.j0 k l0 l1 (decide ((l1.length : Int) > 1048576)))
def laws_FnTurn.T7 : Bool × List (List Nat × List Nat) := (true, [([], []), ([], []), ([], []), ([], []), ([1, 2, 3], [1, 2, 3]), ([0, 4, 4], [0, 4]), ([5], [5]), ([6, 5], [6]), ([7], [7]), ([8, 7], [7, 8]), ([7], [7]), ([10, 7], [7, 10]), ([9, 11, 7], [7, 9, 11]), ([7, 12], [7, 12]), ([13, 7], [13]), ([14], [14]), ([15, 14], [14, 15]), ([14], [14]), ([17, 14], [14, 17]), ([16, 18, 14, 14], [14, 16, 18]), ([19, 14], [14, 19]), ([14, 20], [14, 20]), ([21, 19], [21]), ([22], [22]), ([23, 22, 22], [22, 23]), ([22], [22]), ([25, 24, 22], [22, 25]), ([24, 26, 22], [22, 24, 26]), ([22, 27], [22, 27])])
def laws_FnTurn.B7 : List Nat := [0, 0, 0, 0, 14, 31, 63, 127, 255, 511, 255, 1279, 4095, 8191, 16383, 32767, 65535, 32767, 163839, 524287, 1048575, 2097151, 4194303, 8388607, 16777215, 8388607, 67108863, 134217727, 268435455]
theorem laws_FnTurn.tab7 : rtab .any (opsOf Try.f5 7) = laws_FnTurn.T7 := by kernel_rfl
theorem laws_FnTurn.bits7 : waitsOk laws_FnTurn.T7.2 laws_FnTurn.B7 = true := by kernel_rfl
def laws_FnTurn.T12 : Bool × List (List Nat × List Nat) := (true, [([], []), ([0], [0]), ([], []), ([2], [2]), ([], []), ([3, 4], [3, 4]), ([5], [5]), ([1, 6], [1, 6]), ([7], [7]), ([8, 7], [8]), ([9], [9]), ([9], [9]), ([11, 9], [9, 11]), ([9], [9]), ([12, 13, 9], [9, 12, 13]), ([14, 9], [9, 14]), ([10, 15, 9, 9], [9, 10, 15]), ([16, 9], [9, 16]), ([9, 17], [9, 17])])
def laws_FnTurn.B12 : List Nat := [0, 1, 0, 4, 0, 28, 60, 127, 255, 511, 1023, 1023, 3071, 1023, 15359, 31743, 65535, 131071, 262143]
theorem laws_FnTurn.tab12 : rtab .any (opsOf Try.f5 12) = laws_FnTurn.T12 := by kernel_rfl
theorem laws_FnTurn.bits12 : waitsOk laws_FnTurn.T12.2 laws_FnTurn.B12 = true := by kernel_rfl
theorem laws_FnTurn.j1_no : ∀ (k_ : Nat) (y0 : List Int) (y1 : List Int) (y3 : List Int) (y4 : Int) (y5 : Int) (y6 : Int) (y7 : Int) (y8 : Int) (y9 : List Int), laws_FnTurn.j1 k_ y0 y1 true y3 y4 y5 y6 y7 y8 y9 ≠ some true := by
  intro k_ y0 y1 y3 y4 y5 y6 y7 y8 y9
  cases k_ <;> simp [laws_FnTurn.j1]
set_option maxHeartbeats 8000000 in
set_option maxRecDepth 100000 in
theorem laws_FnTurn.calls (k : Nat) (A0 : Option Addr) (c0 : Nat) (l0 : List Int) (A1 : Option Addr) (c1 : Nat) (l1 : List Int) (r : Bool) (w : World) (hr0 : Kd.C (Kd.int .u8) w A0 l0.length l0) (hc0 : l0.length ≤ c0) (hr1 : Kd.C (Kd.int .u8) w A1 l1.length l1) (hc1 : l1.length ≤ c1) (h : laws_FnTurn.f k l0 l1 = some r) (ht_ : r = true) :
    Calls Try.prog 5 #[.slice A0 l0.length c0, .slice A1 l1.length c1] w fun e w' => e = .returned (.bool r) ∧ Below w.heap.size w w' := by
  have HT_ := Aside0.mk ht_
  clear ht_
  have hu42 := Try.underlying42
  have hu46 := Try.underlying46
  have hu51 := Try.underlying51
  have HR0 := Aside0.mk hr0
  have HC0 := Aside0.mk hc0
  clear hr0 hc0
  have HR1 := Aside0.mk hr1
  have HC1 := Aside0.mk hc1
  clear hr1 hc1
  have HB := Aside0.mk (Below.refl w.heap.size w)
  have H : (if (l0.length : Int) > 1048576 then (laws_FnTurn.j0 k l0 l1 true) else (laws_FnTurn.j0 k l0 l1 (decide ((l1.length : Int) > 1048576)))) = some r := h
  clear h
  have HC3 := Aside0.mk H
  clear H
  go_enter Try.func5, Try.ntmps5
  go_upto_region 1 with (fail)
  go_cut [25] (fun v25 wc => ∃ (kq : Nat) (x25_2 : Bool), v25 = .bool x25_2 ∧ Aside0 (laws_FnTurn.j0 kq l0 l1 x25_2 = some r) ∧ Aside0 (kq ≤ k) ∧ Aside0 (Below w.heap.size w wc))
  case first =>
    as_aux_lemma =>
    have H := HC3.out
    clear HC3
    by_cases c4 : (l0.length : Int) > 1048576
    · rw [if_pos c4] at H
      have c4b0 : decide (1048576 < (l0.length : Int)) = true := decide_eq_true c4
      have c4b1 : decide (1048576 < l0.length) = true := decide_eq_true (by omega)
      clear c4
      (first | rw [c4b0] | (simp only [i64_w, i32_w]; rw [c4b0]) | skip)
      have H' := Aside0.mk H
      clear H
      go_wp2
      go_meet
      case rel => exact ⟨_, (true), (by first | rfl | (simp; done) | (simp [*]; done)), H', ⟨by first | omega | exact Nat.le_refl _⟩, ⟨by repeat (first | (with_reducible first | exact HB.out | apply below_alloc | apply pw_below_drewN | apply below_drew1) | exact HB.out)⟩⟩
    · rw [if_neg c4] at H
      have c4b0 : decide (1048576 < (l0.length : Int)) = false := decide_eq_false c4
      have c4b1 : decide (1048576 < l0.length) = false := decide_eq_false (by omega)
      clear c4
      (first | rw [c4b0] | (simp only [i64_w, i32_w]; rw [c4b0]) | skip)
      have H' := Aside0.mk H
      clear H
      go_wp2
      go_meet
      case rel => exact ⟨_, (decide ((l1.length : Int) > 1048576)), (by first | rfl | (simp; done) | (simp [*]; done)), H', ⟨by first | omega | exact Nat.le_refl _⟩, ⟨by repeat (first | (with_reducible first | exact HB.out | apply below_alloc | apply pw_below_drewN | apply below_drew1) | exact HB.out)⟩⟩
  case rest =>
    as_aux_lemma =>
    clear HC3
    try clear c1
    try clear p2
    try clear c4
    try clear c4b0
    try clear c4b1
    obtain ⟨kq, x25_2, rfl, HA, HJ2, HB⟩ := hcut
    cases kq with
    | zero => exact absurd HA.out (by simp [laws_FnTurn.j0])
    | succ kj2 =>
      have H := HA.out
      clear HA
      simp only [laws_FnTurn.j0] at H
      by_cases c5 : x25_2 = true
      · subst c5
        have H1 : (some true) = some r := by rw [if_pos rfl] at H; exact H
        clear H
        have H := H1
        clear H1
        obtain rfl := Option.some.inj H
        go_wp2
        go_ret
        exact ⟨by first | rfl | (simp [errW_none, errW_some] <;> rfl) | (simp [*, errW_none, errW_some] <;> rfl), by repeat (first | (with_reducible first | exact HB.out | apply below_alloc | apply pw_below_drewN | apply below_drew1) | exact HB.out)⟩
      · replace c5 := Bool.eq_false_iff.mpr c5
        subst c5
        have H1 : ((spec_DrawTurnNext.f kj2 l0).bind fun bt364 => ((impl_TurnNext.f kj2 bt364.1 bt364.2.1 bt364.2.2.1 bt364.2.2.2).bind fun bt373 => ((spec_DrawSome.f kj2 l1).bind fun bt381 => ((impl_Some.f kj2 bt381.1 bt381.2.1 bt381.2.2).bind fun bt386 => ((spec_Some.f kj2 bt381.1 bt381.2.1 bt381.2.2).bind fun bt390 => ((spec_TurnNext.f kj2 bt364.1 bt364.2.1 bt364.2.2.1 bt364.2.2.2).bind fun bt396 => ((laws_lwTurn.f kj2 bt373.1 bt373.2.1 bt373.2.2.1 bt373.2.2.2.1 bt373.2.2.2.2 bt396.1 bt396.2.1 bt396.2.2.1 bt396.2.2.2.1 bt396.2.2.2.2).bind fun t403 => (if t403 = true then (if bt386.1 = bt390.1 then ((laws_lwNums.f kj2 bt386.2 bt390.2).bind fun t404 => (if t404 = true then ((impl_TurnRight.f kj2 bt364.1 bt364.2.1).bind fun t405 => ((spec_TurnRight.f kj2 bt364.1 bt364.2.1).bind fun t406 => (laws_FnTurn.j1 kj2 bt364.2.2.1 bt381.1 (t405 != t406) bt373.1 bt373.2.1 bt373.2.2.1 bt373.2.2.2.1 bt373.2.2.2.2 bt386.1 bt386.2))) else (laws_FnTurn.j1 kj2 bt364.2.2.1 bt381.1 true bt373.1 bt373.2.1 bt373.2.2.1 bt373.2.2.2.1 bt373.2.2.2.2 bt386.1 bt386.2))) else (laws_FnTurn.j1 kj2 bt364.2.2.1 bt381.1 true bt373.1 bt373.2.1 bt373.2.2.1 bt373.2.2.2.1 bt373.2.2.2.2 bt386.1 bt386.2)) else (laws_FnTurn.j1 kj2 bt364.2.2.1 bt381.1 true bt373.1 bt373.2.1 bt373.2.2.1 bt373.2.2.2.1 bt373.2.2.2.2 bt386.1 bt386.2))))))))) = some r := by rw [if_neg (show ¬ (false = true) by decide)] at H; exact H
        clear H
        have H := H1
        clear H1
        replace H := Option.bind_eq_some_iff.mp H
        obtain ⟨⟨t364, t367, t368, t371⟩, A60, H⟩ := H
        replace H : ((impl_TurnNext.f kj2 t364 t367 t368 t371).bind fun bt373 => ((spec_DrawSome.f kj2 l1).bind fun bt381 => ((impl_Some.f kj2 bt381.1 bt381.2.1 bt381.2.2).bind fun bt386 => ((spec_Some.f kj2 bt381.1 bt381.2.1 bt381.2.2).bind fun bt390 => ((spec_TurnNext.f kj2 t364 t367 t368 t371).bind fun bt396 => ((laws_lwTurn.f kj2 bt373.1 bt373.2.1 bt373.2.2.1 bt373.2.2.2.1 bt373.2.2.2.2 bt396.1 bt396.2.1 bt396.2.2.1 bt396.2.2.2.1 bt396.2.2.2.2).bind fun t403 => (if t403 = true then (if bt386.1 = bt390.1 then ((laws_lwNums.f kj2 bt386.2 bt390.2).bind fun t404 => (if t404 = true then ((impl_TurnRight.f kj2 t364 t367).bind fun t405 => ((spec_TurnRight.f kj2 t364 t367).bind fun t406 => (laws_FnTurn.j1 kj2 t368 bt381.1 (t405 != t406) bt373.1 bt373.2.1 bt373.2.2.1 bt373.2.2.2.1 bt373.2.2.2.2 bt386.1 bt386.2))) else (laws_FnTurn.j1 kj2 t368 bt381.1 true bt373.1 bt373.2.1 bt373.2.2.1 bt373.2.2.2.1 bt373.2.2.2.2 bt386.1 bt386.2))) else (laws_FnTurn.j1 kj2 t368 bt381.1 true bt373.1 bt373.2.1 bt373.2.2.1 bt373.2.2.2.1 bt373.2.2.2.2 bt386.1 bt386.2)) else (laws_FnTurn.j1 kj2 t368 bt381.1 true bt373.1 bt373.2.1 bt373.2.2.1 bt373.2.2.2.1 bt373.2.2.2.2 bt386.1 bt386.2)))))))) = some r := H
        have A6 := Aside0.mk A60
        clear A60
        replace H := Option.bind_eq_some_iff.mp H
        obtain ⟨⟨t373, t376, t377, t378, t379⟩, A70, H⟩ := H
        replace H : ((spec_DrawSome.f kj2 l1).bind fun bt381 => ((impl_Some.f kj2 bt381.1 bt381.2.1 bt381.2.2).bind fun bt386 => ((spec_Some.f kj2 bt381.1 bt381.2.1 bt381.2.2).bind fun bt390 => ((spec_TurnNext.f kj2 t364 t367 t368 t371).bind fun bt396 => ((laws_lwTurn.f kj2 t373 t376 t377 t378 t379 bt396.1 bt396.2.1 bt396.2.2.1 bt396.2.2.2.1 bt396.2.2.2.2).bind fun t403 => (if t403 = true then (if bt386.1 = bt390.1 then ((laws_lwNums.f kj2 bt386.2 bt390.2).bind fun t404 => (if t404 = true then ((impl_TurnRight.f kj2 t364 t367).bind fun t405 => ((spec_TurnRight.f kj2 t364 t367).bind fun t406 => (laws_FnTurn.j1 kj2 t368 bt381.1 (t405 != t406) t373 t376 t377 t378 t379 bt386.1 bt386.2))) else (laws_FnTurn.j1 kj2 t368 bt381.1 true t373 t376 t377 t378 t379 bt386.1 bt386.2))) else (laws_FnTurn.j1 kj2 t368 bt381.1 true t373 t376 t377 t378 t379 bt386.1 bt386.2)) else (laws_FnTurn.j1 kj2 t368 bt381.1 true t373 t376 t377 t378 t379 bt386.1 bt386.2))))))) = some r := H
        have A7 := Aside0.mk A70
        clear A70
        replace H := Option.bind_eq_some_iff.mp H
        obtain ⟨⟨t381, t382, t383⟩, A80, H⟩ := H
        replace H : ((impl_Some.f kj2 t381 t382 t383).bind fun bt386 => ((spec_Some.f kj2 t381 t382 t383).bind fun bt390 => ((spec_TurnNext.f kj2 t364 t367 t368 t371).bind fun bt396 => ((laws_lwTurn.f kj2 t373 t376 t377 t378 t379 bt396.1 bt396.2.1 bt396.2.2.1 bt396.2.2.2.1 bt396.2.2.2.2).bind fun t403 => (if t403 = true then (if bt386.1 = bt390.1 then ((laws_lwNums.f kj2 bt386.2 bt390.2).bind fun t404 => (if t404 = true then ((impl_TurnRight.f kj2 t364 t367).bind fun t405 => ((spec_TurnRight.f kj2 t364 t367).bind fun t406 => (laws_FnTurn.j1 kj2 t368 t381 (t405 != t406) t373 t376 t377 t378 t379 bt386.1 bt386.2))) else (laws_FnTurn.j1 kj2 t368 t381 true t373 t376 t377 t378 t379 bt386.1 bt386.2))) else (laws_FnTurn.j1 kj2 t368 t381 true t373 t376 t377 t378 t379 bt386.1 bt386.2)) else (laws_FnTurn.j1 kj2 t368 t381 true t373 t376 t377 t378 t379 bt386.1 bt386.2)))))) = some r := H
        have A8 := Aside0.mk A80
        clear A80
        replace H := Option.bind_eq_some_iff.mp H
        obtain ⟨⟨t386, t387⟩, A90, H⟩ := H
        replace H : ((spec_Some.f kj2 t381 t382 t383).bind fun bt390 => ((spec_TurnNext.f kj2 t364 t367 t368 t371).bind fun bt396 => ((laws_lwTurn.f kj2 t373 t376 t377 t378 t379 bt396.1 bt396.2.1 bt396.2.2.1 bt396.2.2.2.1 bt396.2.2.2.2).bind fun t403 => (if t403 = true then (if t386 = bt390.1 then ((laws_lwNums.f kj2 t387 bt390.2).bind fun t404 => (if t404 = true then ((impl_TurnRight.f kj2 t364 t367).bind fun t405 => ((spec_TurnRight.f kj2 t364 t367).bind fun t406 => (laws_FnTurn.j1 kj2 t368 t381 (t405 != t406) t373 t376 t377 t378 t379 t386 t387))) else (laws_FnTurn.j1 kj2 t368 t381 true t373 t376 t377 t378 t379 t386 t387))) else (laws_FnTurn.j1 kj2 t368 t381 true t373 t376 t377 t378 t379 t386 t387)) else (laws_FnTurn.j1 kj2 t368 t381 true t373 t376 t377 t378 t379 t386 t387))))) = some r := H
        have A9 := Aside0.mk A90
        clear A90
        replace H := Option.bind_eq_some_iff.mp H
        obtain ⟨⟨t390, t391⟩, A100, H⟩ := H
        replace H : ((spec_TurnNext.f kj2 t364 t367 t368 t371).bind fun bt396 => ((laws_lwTurn.f kj2 t373 t376 t377 t378 t379 bt396.1 bt396.2.1 bt396.2.2.1 bt396.2.2.2.1 bt396.2.2.2.2).bind fun t403 => (if t403 = true then (if t386 = t390 then ((laws_lwNums.f kj2 t387 t391).bind fun t404 => (if t404 = true then ((impl_TurnRight.f kj2 t364 t367).bind fun t405 => ((spec_TurnRight.f kj2 t364 t367).bind fun t406 => (laws_FnTurn.j1 kj2 t368 t381 (t405 != t406) t373 t376 t377 t378 t379 t386 t387))) else (laws_FnTurn.j1 kj2 t368 t381 true t373 t376 t377 t378 t379 t386 t387))) else (laws_FnTurn.j1 kj2 t368 t381 true t373 t376 t377 t378 t379 t386 t387)) else (laws_FnTurn.j1 kj2 t368 t381 true t373 t376 t377 t378 t379 t386 t387)))) = some r := H
        have A10 := Aside0.mk A100
        clear A100
        have HC11 := Aside0.mk H
        clear H
        go_upto_region 7 with (first | ((with_reducible refine gate_callee (f := 24) rfl ?_); refine goesL_ (some 28) rfl rfl Try.func24 (by kernel_rfl) rfl #[.slice A0 l0.length c0] rfl (by (try simp only [List.map_toArray, List.map_cons, List.map_nil]); first | done | rfl | (simp only [List.length_drop, List.length_take]; rfl)) ?_; (with_reducible refine (spec_DrawTurnNext.calls kj2 _ _ l0 t364 t367 t368 t371 _ ?side1 ?side2 A6.out).mono ?_); (case side1 => repeat (first | exact (Kd.C_below HR0.out HB.out) | (with_reducible refine Kd.C_alloc ?_ _) | (with_reducible refine Kd.C_drewN ?_ _) | (with_reducible refine Kd.C_drew ?_))); (case side2 => exact HC0.out); rintro e w12 ⟨v365, v369, rfl, ho0, ho1, hb⟩; refine ⟨_, rfl, ?_⟩; have n0_ := Aside0.mk (Kd.R_lower ho0 (below_size (by repeat (first | (with_reducible first | exact HB.out | apply below_alloc | apply pw_below_drewN | apply below_drew1) | exact HB.out)))); have n1_ := Aside0.mk (Kd.R_lower ho1 (below_size (by repeat (first | (with_reducible first | exact HB.out | apply below_alloc | apply pw_below_drewN | apply below_drew1) | exact HB.out)))); have n2_ := Aside0.mk (below_step (by repeat (first | (with_reducible first | exact HB.out | apply below_alloc | apply pw_below_drewN | apply below_drew1) | exact HB.out)) hb); clear HB; have HO366 := n0_; have HO370 := n1_; have HB := n2_; clear n0_ n1_ n2_; (try clear hb); (try clear hb2); (try clear hk); (try clear hi); (try clear ho0); (try clear ho1)) | ((with_reducible refine gate_dst (N := 5) rfl ?_); (try (refine gate_guard (by rfl) ?_; dsimp only)); refine box_event ?hg (N := 5) ?hd (cs := #[.slice none 0 0, .int .i64 0]) (t := 42) ?hr ?_; (case hd => rfl); (case hg => rfl); (case hr => first | (go_simp; done) | (go_simp; rfl)); intro gb372 hg w13 hbox hb; have n0_ := Aside0.mk (Kd.R_below (by (with_reducible repeat (first | apply Kd.R_alloc | apply Kd.R_drewN | apply Kd.R_drew)); exact HO366.out) hb); have n1_ := Aside0.mk (Kd.R_below (by (with_reducible repeat (first | apply Kd.R_alloc | apply Kd.R_drewN | apply Kd.R_drew)); exact HO370.out) hb); have n2_ := Aside0.mk (below_step (by repeat (first | (with_reducible first | exact HB.out | apply below_alloc | apply pw_below_drewN | apply below_drew1) | exact HB.out)) hb); have n3_ := Aside0.mk (hbox); have n4_ := Aside0.mk ((by rw [hg]; exact (below_size (by repeat (first | (with_reducible first | exact HB.out | apply below_alloc | apply pw_below_drewN | apply below_drew1) | exact HB.out))) : w.heap.size ≤ gb372)); have n5_ := Aside0.mk ((by rw [hg]; exact (below_size (by repeat (first | (with_reducible first | exact HB.out | apply below_alloc | apply pw_below_drewN | apply below_drew1) | exact HB.out))) : w.heap.size ≤ gb372)); clear HO366; clear HO370; clear HB; have HO366 := n0_; have HO370 := n1_; have HB := n2_; have BK372 := n3_; have GW372 := n4_; have GE372 := n5_; clear n0_ n1_ n2_ n3_ n4_ n5_; clear hb hbox hg; obtain ⟨Ao14, co14, eo14⟩ := Kd.R_slice HO366.out; subst eo14; have hcz15_0 : w13.cell? ⟨gb372, 0, none⟩ = some (.slice none 0 0) := (blk_cell BK372.out 0).trans rfl; have hcz15_1 : w13.cell? ⟨gb372, 1, none⟩ = some (.int .i64 0) := (blk_cell BK372.out 1).trans rfl; have hfz15_0 := blk_frozen BK372.out 0; have hfz15_1 := blk_frozen BK372.out 1; obtain ⟨Ao16, co16, eo16⟩ := Kd.R_slice HO370.out; subst eo16) | ((with_reducible refine gate_callee (f := 25) rfl ?_); refine goesL_ (some 35) rfl rfl Try.func25 (by kernel_rfl) rfl #[.agg #[.slice Ao14 t364.length co14, .int .i64 t367], .slice Ao16 t368.length co16, .int .i64 t371] rfl (by (try simp only [List.map_toArray, List.map_cons, List.map_nil]); first | done | rfl | (simp only [List.length_drop, List.length_take]; rfl)) ?_; (with_reducible refine (impl_TurnNext.calls kj2 _ _ t364 t367 _ _ t368 t371 t373 t376 t377 t378 t379 _ ?side1 ?side2 ?side3 ?side4 A7.out).mono ?_); (case side1 => refine (Kd.R_reads' (e := 2) (base := w.heap.size) (ok := fun k_ => some k_ ≠ (.slice Ao16 t368.length co16 : Value).ownBlock) (n := t364.length) (c := co14) ?_).2.2; exact (by (with_reducible repeat (first | apply Kd.R_alloc | apply Kd.R_drewN | apply Kd.R_drew)); exact (Kd.R_mono (Kd.R_far (p := ⟨gb372, 1, none⟩) (Kd.R_far (p := ⟨gb372, 0, none⟩) (Kd.R_types HO366.out BK372.out (by decide)) (fun _ hk => hk.2) (.slice Ao14 t364.length co14)) (fun _ hk => hk.2) (.int .i64 t367)) (fun _ h_ => h_.1)))); (case side2 => exact (Kd.R_reads' HO366.out).2.1); (case side3 => refine (Kd.R_reads' (e := 2) (base := w.heap.size) (ok := fun k_ => some k_ ≠ (.slice Ao14 t364.length co14 : Value).ownBlock) (n := t368.length) (c := co16) ?_).2.2; exact (by (with_reducible repeat (first | apply Kd.R_alloc | apply Kd.R_drewN | apply Kd.R_drew)); exact (Kd.R_mono (Kd.R_far (p := ⟨gb372, 1, none⟩) (Kd.R_far (p := ⟨gb372, 0, none⟩) (Kd.R_types HO370.out BK372.out (by decide)) (fun _ hk => hk.2) (.slice Ao14 t364.length co14)) (fun _ hk => hk.2) (.int .i64 t367)) (fun _ h_ => h_.1)))); (case side4 => exact (Kd.R_reads' HO370.out).2.1); rintro e w17 ⟨v374, rfl, ho0, hb⟩; refine ⟨_, rfl, ?_⟩; have n0_ := Aside0.mk (Kd.R_elder' (by (with_reducible repeat (first | apply Kd.R_alloc | apply Kd.R_drewN | apply Kd.R_drew)); exact (Kd.R_mono (Kd.R_far (p := ⟨gb372, 1, none⟩) (Kd.R_far (p := ⟨gb372, 0, none⟩) (Kd.R_types HO366.out BK372.out (by decide)) (fun _ hk => hk.2) (.slice Ao14 t364.length co14)) (fun _ hk => hk.2) (.int .i64 t367)) (fun _ h_ => h_.1))) (Kd.R_base ho0) hb); have n1_ := Aside0.mk (Kd.R_elder' (by (with_reducible repeat (first | apply Kd.R_alloc | apply Kd.R_drewN | apply Kd.R_drew)); exact (Kd.R_mono (Kd.R_far (p := ⟨gb372, 1, none⟩) (Kd.R_far (p := ⟨gb372, 0, none⟩) (Kd.R_types HO370.out BK372.out (by decide)) (fun _ hk => hk.2) (.slice Ao14 t364.length co14)) (fun _ hk => hk.2) (.int .i64 t367)) (fun _ h_ => h_.1))) (Kd.R_base ho0) hb); have n2_ := Aside0.mk (Kd.R_lower (Kd.R_new' (Kd.R_new' ho0 (Kd.R_lt (by (with_reducible repeat (first | apply Kd.R_alloc | apply Kd.R_drewN | apply Kd.R_drew)); exact (Kd.R_mono (Kd.R_far (p := ⟨gb372, 1, none⟩) (Kd.R_far (p := ⟨gb372, 0, none⟩) (Kd.R_types HO366.out BK372.out (by decide)) (fun _ hk => hk.2) (.slice Ao14 t364.length co14)) (fun _ hk => hk.2) (.int .i64 t367)) (fun _ h_ => h_.1))))) (Kd.R_lt (by (with_reducible repeat (first | apply Kd.R_alloc | apply Kd.R_drewN | apply Kd.R_drew)); exact (Kd.R_mono (Kd.R_far (p := ⟨gb372, 1, none⟩) (Kd.R_far (p := ⟨gb372, 0, none⟩) (Kd.R_types HO370.out BK372.out (by decide)) (fun _ hk => hk.2) (.slice Ao14 t364.length co14)) (fun _ hk => hk.2) (.int .i64 t367)) (fun _ h_ => h_.1))))) (below_size (by repeat (first | (with_reducible first | exact HB.out | apply below_alloc | apply pw_below_drewN | apply below_drew1 | refine below_set ?_ GE372.out) | exact HB.out)))); have n3_ := Aside0.mk (blk_below (g := gb372) (o := .cells #[.slice Ao14 t364.length co14, .int .i64 t367] 42 (0, 0)) (by (with_reducible repeat (first | refine blk_drewN ?_ _ | refine blk_drew ?_ | refine blk_alloc ?_ _)); refine blk_put (cs := #[.slice Ao14 t364.length co14, .int .i64 0]) ?_ 1 _ rfl; (with_reducible repeat (first | refine blk_drewN ?_ _ | refine blk_drew ?_ | refine blk_alloc ?_ _)); refine blk_put (cs := #[.slice none 0 0, .int .i64 0]) ?_ 0 _ rfl; (with_reducible repeat (first | refine blk_drewN ?_ _ | refine blk_drew ?_ | refine blk_alloc ?_ _)); exact BK372.out) hb); have n4_ := Aside0.mk (below_step (by repeat (first | (with_reducible first | exact HB.out | apply below_alloc | apply pw_below_drewN | apply below_drew1 | refine below_set ?_ GE372.out) | exact HB.out)) hb); clear HO366; clear HO370; clear BK372; clear HB; have HO366 := n0_; have HO370 := n1_; have HO375 := n2_; have BK372 := n3_; have HB := n4_; clear n0_ n1_ n2_ n3_ n4_; (try clear hb); (try clear hb2); (try clear hk); (try clear hi); (try clear ho0)) | ((with_reducible refine gate_dst (N := 8) rfl ?_); (try (refine gate_guard (by rfl) ?_; dsimp only)); refine box_event ?hg (N := 8) ?hd (cs := #[.slice none 0 0, .int .i64 0, .int .i64 0, .int .i64 0, .int .i64 0]) (t := 46) ?hr ?_; (case hd => rfl); (case hg => rfl); (case hr => first | (go_simp; done) | (go_simp; rfl)); intro gb380 hg w18 hbox hb; have n0_ := Aside0.mk (Kd.R_below (by (with_reducible repeat (first | apply Kd.R_alloc | apply Kd.R_drewN | apply Kd.R_drew)); exact HO366.out) hb); have n1_ := Aside0.mk (Kd.R_below (by (with_reducible repeat (first | apply Kd.R_alloc | apply Kd.R_drewN | apply Kd.R_drew)); exact HO370.out) hb); have n2_ := Aside0.mk (Kd.R_below (by (with_reducible repeat (first | apply Kd.R_alloc | apply Kd.R_drewN | apply Kd.R_drew)); exact HO375.out) hb); have n3_ := Aside0.mk (blk_below (g := gb372) (o := .cells #[.slice Ao14 t364.length co14, .int .i64 t367] 42 (0, 0)) (by (with_reducible repeat (first | refine blk_drewN ?_ _ | refine blk_drew ?_ | refine blk_alloc ?_ _)); exact BK372.out) hb); have n4_ := Aside0.mk (below_step (by repeat (first | (with_reducible first | exact HB.out | apply below_alloc | apply pw_below_drewN | apply below_drew1 | refine below_set ?_ GE372.out) | exact HB.out)) hb); have n5_ := Aside0.mk (hbox); have n6_ := Aside0.mk ((by rw [hg]; exact (below_size (by repeat (first | (with_reducible first | exact HB.out | apply below_alloc | apply pw_below_drewN | apply below_drew1 | refine below_set ?_ GE372.out) | exact HB.out))) : w.heap.size ≤ gb380)); have n7_ := Aside0.mk ((by rw [hg]; exact (below_size (by repeat (first | (with_reducible first | exact HB.out | apply below_alloc | apply pw_below_drewN | apply below_drew1 | refine below_set ?_ GE372.out) | exact HB.out))) : w.heap.size ≤ gb380)); have n8_ := Aside0.mk ((by rw [hg]; exact Nat.ne_of_lt (blk_lt (g := gb372) (o := .cells #[.slice Ao14 t364.length co14, .int .i64 t367] 42 (0, 0)) (by (with_reducible repeat (first | refine blk_drewN ?_ _ | refine blk_drew ?_ | refine blk_alloc ?_ _)); exact BK372.out)) : gb372 ≠ gb380)); have n9_ := Aside0.mk ((by rw [hg]; exact Nat.ne_of_gt (blk_lt (g := gb372) (o := .cells #[.slice Ao14 t364.length co14, .int .i64 t367] 42 (0, 0)) (by (with_reducible repeat (first | refine blk_drewN ?_ _ | refine blk_drew ?_ | refine blk_alloc ?_ _)); exact BK372.out)) : gb380 ≠ gb372)); clear HO366; clear HO370; clear HO375; clear BK372; clear HB; have HO366 := n0_; have HO370 := n1_; have HO375 := n2_; have BK372 := n3_; have HB := n4_; have BK380 := n5_; have GW380 := n6_; have GE380 := n7_; have NB372_380 := n8_; have NB380_372 := n9_; clear n0_ n1_ n2_ n3_ n4_ n5_ n6_ n7_ n8_ n9_; clear hb hbox hg; obtain ⟨Ao19, co19, eo19⟩ := Kd.R_slice HO375.out; subst eo19; have hnb20 := NB380_372.out; have hnc20 := NB372_380.out; have hcz21_0 : w18.cell? ⟨gb380, 0, none⟩ = some (.slice none 0 0) := (blk_cell BK380.out 0).trans rfl; have hcz21_1 : w18.cell? ⟨gb380, 1, none⟩ = some (.int .i64 0) := (blk_cell BK380.out 1).trans rfl; have hcz21_2 : w18.cell? ⟨gb380, 2, none⟩ = some (.int .i64 0) := (blk_cell BK380.out 2).trans rfl; have hcz21_3 : w18.cell? ⟨gb380, 3, none⟩ = some (.int .i64 0) := (blk_cell BK380.out 3).trans rfl; have hcz21_4 : w18.cell? ⟨gb380, 4, none⟩ = some (.int .i64 0) := (blk_cell BK380.out 4).trans rfl; have hfz21_0 := blk_frozen BK380.out 0; have hfz21_1 := blk_frozen BK380.out 1; have hfz21_2 := blk_frozen BK380.out 2; have hfz21_3 := blk_frozen BK380.out 3; have hfz21_4 := blk_frozen BK380.out 4) | ((with_reducible refine gate_callee (f := 26) rfl ?_); refine goesL_ (some 38) rfl rfl Try.func26 (by kernel_rfl) rfl #[.slice A1 l1.length c1] rfl (by (try simp only [List.map_toArray, List.map_cons, List.map_nil]); first | done | rfl | (simp only [List.length_drop, List.length_take]; rfl)) ?_; (with_reducible refine (spec_DrawSome.calls kj2 _ _ l1 t381 t382 t383 _ ?side1 ?side2 A8.out).mono ?_); (case side1 => exact Kd.C_below HR1.out (by repeat (first | (with_reducible first | exact HB.out | apply below_alloc | apply pw_below_drewN | apply below_drew1 | refine below_set ?_ GE372.out | refine below_set ?_ GE380.out) | exact HB.out))); (case side2 => exact HC1.out); rintro e w22 ⟨v384, rfl, ho0, hb⟩; refine ⟨_, rfl, ?_⟩; have n0_ := Aside0.mk (Kd.R_elder' (by (with_reducible repeat (first | apply Kd.R_alloc | apply Kd.R_drewN | apply Kd.R_drew)); exact (Kd.R_mono (Kd.R_far (p := ⟨gb380, 4, none⟩) (Kd.R_far (p := ⟨gb380, 3, none⟩) (Kd.R_far (p := ⟨gb380, 2, none⟩) (Kd.R_far (p := ⟨gb380, 1, none⟩) (Kd.R_far (p := ⟨gb380, 0, none⟩) (Kd.R_types HO366.out BK380.out (by decide)) (fun _ hk => hk.2) (.slice Ao19 t373.length co19)) (fun _ hk => hk.2) (.int .i64 t376)) (fun _ hk => hk.2) (.int .i64 t377)) (fun _ hk => hk.2) (.int .i64 t378)) (fun _ hk => hk.2) (.int .i64 t379)) (fun _ h_ => h_.1))) (Kd.R_base ho0) hb); have n1_ := Aside0.mk (Kd.R_elder' (by (with_reducible repeat (first | apply Kd.R_alloc | apply Kd.R_drewN | apply Kd.R_drew)); exact (Kd.R_mono (Kd.R_far (p := ⟨gb380, 4, none⟩) (Kd.R_far (p := ⟨gb380, 3, none⟩) (Kd.R_far (p := ⟨gb380, 2, none⟩) (Kd.R_far (p := ⟨gb380, 1, none⟩) (Kd.R_far (p := ⟨gb380, 0, none⟩) (Kd.R_types HO370.out BK380.out (by decide)) (fun _ hk => hk.2) (.slice Ao19 t373.length co19)) (fun _ hk => hk.2) (.int .i64 t376)) (fun _ hk => hk.2) (.int .i64 t377)) (fun _ hk => hk.2) (.int .i64 t378)) (fun _ hk => hk.2) (.int .i64 t379)) (fun _ h_ => h_.1))) (Kd.R_base ho0) hb); have n2_ := Aside0.mk (Kd.R_elder' (by (with_reducible repeat (first | apply Kd.R_alloc | apply Kd.R_drewN | apply Kd.R_drew)); exact (Kd.R_mono (Kd.R_far (p := ⟨gb380, 4, none⟩) (Kd.R_far (p := ⟨gb380, 3, none⟩) (Kd.R_far (p := ⟨gb380, 2, none⟩) (Kd.R_far (p := ⟨gb380, 1, none⟩) (Kd.R_far (p := ⟨gb380, 0, none⟩) (Kd.R_types HO375.out BK380.out (by decide)) (fun _ hk => hk.2) (.slice Ao19 t373.length co19)) (fun _ hk => hk.2) (.int .i64 t376)) (fun _ hk => hk.2) (.int .i64 t377)) (fun _ hk => hk.2) (.int .i64 t378)) (fun _ hk => hk.2) (.int .i64 t379)) (fun _ h_ => h_.1))) (Kd.R_base ho0) hb); have n3_ := Aside0.mk (Kd.R_lower (Kd.R_new' (Kd.R_new' (Kd.R_new' ho0 (Kd.R_lt (by (with_reducible repeat (first | apply Kd.R_alloc | apply Kd.R_drewN | apply Kd.R_drew)); exact (Kd.R_mono (Kd.R_far (p := ⟨gb380, 4, none⟩) (Kd.R_far (p := ⟨gb380, 3, none⟩) (Kd.R_far (p := ⟨gb380, 2, none⟩) (Kd.R_far (p := ⟨gb380, 1, none⟩) (Kd.R_far (p := ⟨gb380, 0, none⟩) (Kd.R_types HO366.out BK380.out (by decide)) (fun _ hk => hk.2) (.slice Ao19 t373.length co19)) (fun _ hk => hk.2) (.int .i64 t376)) (fun _ hk => hk.2) (.int .i64 t377)) (fun _ hk => hk.2) (.int .i64 t378)) (fun _ hk => hk.2) (.int .i64 t379)) (fun _ h_ => h_.1))))) (Kd.R_lt (by (with_reducible repeat (first | apply Kd.R_alloc | apply Kd.R_drewN | apply Kd.R_drew)); exact (Kd.R_mono (Kd.R_far (p := ⟨gb380, 4, none⟩) (Kd.R_far (p := ⟨gb380, 3, none⟩) (Kd.R_far (p := ⟨gb380, 2, none⟩) (Kd.R_far (p := ⟨gb380, 1, none⟩) (Kd.R_far (p := ⟨gb380, 0, none⟩) (Kd.R_types HO370.out BK380.out (by decide)) (fun _ hk => hk.2) (.slice Ao19 t373.length co19)) (fun _ hk => hk.2) (.int .i64 t376)) (fun _ hk => hk.2) (.int .i64 t377)) (fun _ hk => hk.2) (.int .i64 t378)) (fun _ hk => hk.2) (.int .i64 t379)) (fun _ h_ => h_.1))))) (Kd.R_lt (by (with_reducible repeat (first | apply Kd.R_alloc | apply Kd.R_drewN | apply Kd.R_drew)); exact (Kd.R_mono (Kd.R_far (p := ⟨gb380, 4, none⟩) (Kd.R_far (p := ⟨gb380, 3, none⟩) (Kd.R_far (p := ⟨gb380, 2, none⟩) (Kd.R_far (p := ⟨gb380, 1, none⟩) (Kd.R_far (p := ⟨gb380, 0, none⟩) (Kd.R_types HO375.out BK380.out (by decide)) (fun _ hk => hk.2) (.slice Ao19 t373.length co19)) (fun _ hk => hk.2) (.int .i64 t376)) (fun _ hk => hk.2) (.int .i64 t377)) (fun _ hk => hk.2) (.int .i64 t378)) (fun _ hk => hk.2) (.int .i64 t379)) (fun _ h_ => h_.1))))) (below_size (by repeat (first | (with_reducible first | exact HB.out | apply below_alloc | apply pw_below_drewN | apply below_drew1 | refine below_set ?_ GE372.out | refine below_set ?_ GE380.out) | exact HB.out)))); have n4_ := Aside0.mk (blk_below (g := gb372) (o := .cells #[.slice Ao14 t364.length co14, .int .i64 t367] 42 (0, 0)) (by (with_reducible repeat (first | refine blk_drewN ?_ _ | refine blk_drew ?_ | refine blk_alloc ?_ _)); refine blk_far ?_ NB372_380.out _; (with_reducible repeat (first | refine blk_drewN ?_ _ | refine blk_drew ?_ | refine blk_alloc ?_ _)); refine blk_far ?_ NB372_380.out _; (with_reducible repeat (first | refine blk_drewN ?_ _ | refine blk_drew ?_ | refine blk_alloc ?_ _)); refine blk_far ?_ NB372_380.out _; (with_reducible repeat (first | refine blk_drewN ?_ _ | refine blk_drew ?_ | refine blk_alloc ?_ _)); refine blk_far ?_ NB372_380.out _; (with_reducible repeat (first | refine blk_drewN ?_ _ | refine blk_drew ?_ | refine blk_alloc ?_ _)); refine blk_far ?_ NB372_380.out _; (with_reducible repeat (first | refine blk_drewN ?_ _ | refine blk_drew ?_ | refine blk_alloc ?_ _)); exact BK372.out) hb); have n5_ := Aside0.mk (blk_below (g := gb380) (o := .cells #[.slice Ao19 t373.length co19, .int .i64 t376, .int .i64 t377, .int .i64 t378, .int .i64 t379] 46 (0, 0)) (by (with_reducible repeat (first | refine blk_drewN ?_ _ | refine blk_drew ?_ | refine blk_alloc ?_ _)); refine blk_put (cs := #[.slice Ao19 t373.length co19, .int .i64 t376, .int .i64 t377, .int .i64 t378, .int .i64 0]) ?_ 4 _ rfl; (with_reducible repeat (first | refine blk_drewN ?_ _ | refine blk_drew ?_ | refine blk_alloc ?_ _)); refine blk_put (cs := #[.slice Ao19 t373.length co19, .int .i64 t376, .int .i64 t377, .int .i64 0, .int .i64 0]) ?_ 3 _ rfl; (with_reducible repeat (first | refine blk_drewN ?_ _ | refine blk_drew ?_ | refine blk_alloc ?_ _)); refine blk_put (cs := #[.slice Ao19 t373.length co19, .int .i64 t376, .int .i64 0, .int .i64 0, .int .i64 0]) ?_ 2 _ rfl; (with_reducible repeat (first | refine blk_drewN ?_ _ | refine blk_drew ?_ | refine blk_alloc ?_ _)); refine blk_put (cs := #[.slice Ao19 t373.length co19, .int .i64 0, .int .i64 0, .int .i64 0, .int .i64 0]) ?_ 1 _ rfl; (with_reducible repeat (first | refine blk_drewN ?_ _ | refine blk_drew ?_ | refine blk_alloc ?_ _)); refine blk_put (cs := #[.slice none 0 0, .int .i64 0, .int .i64 0, .int .i64 0, .int .i64 0]) ?_ 0 _ rfl; (with_reducible repeat (first | refine blk_drewN ?_ _ | refine blk_drew ?_ | refine blk_alloc ?_ _)); exact BK380.out) hb); have n6_ := Aside0.mk (below_step (by repeat (first | (with_reducible first | exact HB.out | apply below_alloc | apply pw_below_drewN | apply below_drew1 | refine below_set ?_ GE372.out | refine below_set ?_ GE380.out) | exact HB.out)) hb); clear HO366; clear HO370; clear HO375; clear BK372; clear BK380; clear HB; have HO366 := n0_; have HO370 := n1_; have HO375 := n2_; have HO385 := n3_; have BK372 := n4_; have BK380 := n5_; have HB := n6_; clear n0_ n1_ n2_ n3_ n4_ n5_ n6_; (try clear hb); (try clear hb2); (try clear hk); (try clear hi); (try clear ho0); obtain ⟨Ao23, co23, eo23⟩ := Kd.R_slice HO385.out; subst eo23) | ((with_reducible refine gate_callee (f := 27) rfl ?_); refine goesL_ (some 45) rfl rfl Try.func27 (by kernel_rfl) rfl #[.slice Ao23 t381.length co23, .int .i64 t382, .int .i64 t383] rfl (by (try simp only [List.map_toArray, List.map_cons, List.map_nil]); first | done | rfl | (simp only [List.length_drop, List.length_take]; rfl)) ?_; (with_reducible refine (impl_Some.calls kj2 _ _ t381 t382 t383 t386 t387 _ ?side1 ?side2 A9.out).mono ?_); (case side1 => repeat (first | exact (Kd.R_reads' HO385.out).2.2 | (with_reducible refine Kd.C_alloc ?_ _) | (with_reducible refine Kd.C_drewN ?_ _) | (with_reducible refine Kd.C_drew ?_))); (case side2 => exact (Kd.R_reads' HO385.out).2.1); rintro e w24 ⟨v388, rfl, ho0, hb⟩; refine ⟨_, rfl, ?_⟩; have n0_ := Aside0.mk (Kd.R_elder' (by (with_reducible repeat (first | apply Kd.R_alloc | apply Kd.R_drewN | apply Kd.R_drew)); exact HO366.out) (Kd.R_base ho0) hb); have n1_ := Aside0.mk (Kd.R_elder' (by (with_reducible repeat (first | apply Kd.R_alloc | apply Kd.R_drewN | apply Kd.R_drew)); exact HO370.out) (Kd.R_base ho0) hb); have n2_ := Aside0.mk (Kd.R_elder' (by (with_reducible repeat (first | apply Kd.R_alloc | apply Kd.R_drewN | apply Kd.R_drew)); exact HO375.out) (Kd.R_base ho0) hb); have n3_ := Aside0.mk (Kd.R_elder' (by (with_reducible repeat (first | apply Kd.R_alloc | apply Kd.R_drewN | apply Kd.R_drew)); exact HO385.out) (Kd.R_base ho0) hb); have n4_ := Aside0.mk (Kd.R_lower (Kd.R_new' (Kd.R_new' (Kd.R_new' (Kd.R_new' ho0 (Kd.R_lt (by (with_reducible repeat (first | apply Kd.R_alloc | apply Kd.R_drewN | apply Kd.R_drew)); exact HO366.out))) (Kd.R_lt (by (with_reducible repeat (first | apply Kd.R_alloc | apply Kd.R_drewN | apply Kd.R_drew)); exact HO370.out))) (Kd.R_lt (by (with_reducible repeat (first | apply Kd.R_alloc | apply Kd.R_drewN | apply Kd.R_drew)); exact HO375.out))) (Kd.R_lt (by (with_reducible repeat (first | apply Kd.R_alloc | apply Kd.R_drewN | apply Kd.R_drew)); exact HO385.out))) (below_size (by repeat (first | (with_reducible first | exact HB.out | apply below_alloc | apply pw_below_drewN | apply below_drew1 | refine below_set ?_ GE372.out | refine below_set ?_ GE380.out) | exact HB.out)))); have n5_ := Aside0.mk (blk_below (g := gb372) (o := .cells #[.slice Ao14 t364.length co14, .int .i64 t367] 42 (0, 0)) (by (with_reducible repeat (first | refine blk_drewN ?_ _ | refine blk_drew ?_ | refine blk_alloc ?_ _)); exact BK372.out) hb); have n6_ := Aside0.mk (blk_below (g := gb380) (o := .cells #[.slice Ao19 t373.length co19, .int .i64 t376, .int .i64 t377, .int .i64 t378, .int .i64 t379] 46 (0, 0)) (by (with_reducible repeat (first | refine blk_drewN ?_ _ | refine blk_drew ?_ | refine blk_alloc ?_ _)); exact BK380.out) hb); have n7_ := Aside0.mk (below_step (by repeat (first | (with_reducible first | exact HB.out | apply below_alloc | apply pw_below_drewN | apply below_drew1 | refine below_set ?_ GE372.out | refine below_set ?_ GE380.out) | exact HB.out)) hb); clear HO366; clear HO370; clear HO375; clear HO385; clear BK372; clear BK380; clear HB; have HO366 := n0_; have HO370 := n1_; have HO375 := n2_; have HO385 := n3_; have HO389 := n4_; have BK372 := n5_; have BK380 := n6_; have HB := n7_; clear n0_ n1_ n2_ n3_ n4_ n5_ n6_ n7_; (try clear hb); (try clear hb2); (try clear hk); (try clear hi); (try clear ho0)) | ((with_reducible refine gate_callee (f := 28) rfl ?_); refine goesL_ (some 49) rfl rfl Try.func28 (by kernel_rfl) rfl #[.slice Ao23 t381.length co23, .int .i64 t382, .int .i64 t383] rfl (by (try simp only [List.map_toArray, List.map_cons, List.map_nil]); first | done | rfl | (simp only [List.length_drop, List.length_take]; rfl)) ?_; (with_reducible refine (spec_Some.calls kj2 _ _ t381 t382 t383 t390 t391 _ ?side1 ?side2 A10.out).mono ?_); (case side1 => repeat (first | exact (Kd.R_reads' HO385.out).2.2 | (with_reducible refine Kd.C_alloc ?_ _) | (with_reducible refine Kd.C_drewN ?_ _) | (with_reducible refine Kd.C_drew ?_))); (case side2 => exact (Kd.R_reads' HO385.out).2.1); rintro e w25 ⟨v392, rfl, ho0, hb⟩; refine ⟨_, rfl, ?_⟩; have n0_ := Aside0.mk (Kd.R_elder' (by (with_reducible repeat (first | apply Kd.R_alloc | apply Kd.R_drewN | apply Kd.R_drew)); exact HO366.out) (Kd.R_base ho0) hb); have n1_ := Aside0.mk (Kd.R_elder' (by (with_reducible repeat (first | apply Kd.R_alloc | apply Kd.R_drewN | apply Kd.R_drew)); exact HO370.out) (Kd.R_base ho0) hb); have n2_ := Aside0.mk (Kd.R_elder' (by (with_reducible repeat (first | apply Kd.R_alloc | apply Kd.R_drewN | apply Kd.R_drew)); exact HO375.out) (Kd.R_base ho0) hb); have n3_ := Aside0.mk (Kd.R_elder' (by (with_reducible repeat (first | apply Kd.R_alloc | apply Kd.R_drewN | apply Kd.R_drew)); exact HO385.out) (Kd.R_base ho0) hb); have n4_ := Aside0.mk (Kd.R_elder' (by (with_reducible repeat (first | apply Kd.R_alloc | apply Kd.R_drewN | apply Kd.R_drew)); exact HO389.out) (Kd.R_base ho0) hb); have n5_ := Aside0.mk (Kd.R_lower (Kd.R_new' (Kd.R_new' (Kd.R_new' (Kd.R_new' (Kd.R_new' ho0 (Kd.R_lt (by (with_reducible repeat (first | apply Kd.R_alloc | apply Kd.R_drewN | apply Kd.R_drew)); exact HO366.out))) (Kd.R_lt (by (with_reducible repeat (first | apply Kd.R_alloc | apply Kd.R_drewN | apply Kd.R_drew)); exact HO370.out))) (Kd.R_lt (by (with_reducible repeat (first | apply Kd.R_alloc | apply Kd.R_drewN | apply Kd.R_drew)); exact HO375.out))) (Kd.R_lt (by (with_reducible repeat (first | apply Kd.R_alloc | apply Kd.R_drewN | apply Kd.R_drew)); exact HO385.out))) (Kd.R_lt (by (with_reducible repeat (first | apply Kd.R_alloc | apply Kd.R_drewN | apply Kd.R_drew)); exact HO389.out))) (below_size (by repeat (first | (with_reducible first | exact HB.out | apply below_alloc | apply pw_below_drewN | apply below_drew1 | refine below_set ?_ GE372.out | refine below_set ?_ GE380.out) | exact HB.out)))); have n6_ := Aside0.mk (blk_below (g := gb372) (o := .cells #[.slice Ao14 t364.length co14, .int .i64 t367] 42 (0, 0)) (by (with_reducible repeat (first | refine blk_drewN ?_ _ | refine blk_drew ?_ | refine blk_alloc ?_ _)); exact BK372.out) hb); have n7_ := Aside0.mk (blk_below (g := gb380) (o := .cells #[.slice Ao19 t373.length co19, .int .i64 t376, .int .i64 t377, .int .i64 t378, .int .i64 t379] 46 (0, 0)) (by (with_reducible repeat (first | refine blk_drewN ?_ _ | refine blk_drew ?_ | refine blk_alloc ?_ _)); exact BK380.out) hb); have n8_ := Aside0.mk (below_step (by repeat (first | (with_reducible first | exact HB.out | apply below_alloc | apply pw_below_drewN | apply below_drew1 | refine below_set ?_ GE372.out | refine below_set ?_ GE380.out) | exact HB.out)) hb); clear HO366; clear HO370; clear HO375; clear HO385; clear HO389; clear BK372; clear BK380; clear HB; have HO366 := n0_; have HO370 := n1_; have HO375 := n2_; have HO385 := n3_; have HO389 := n4_; have HO393 := n5_; have BK372 := n6_; have BK380 := n7_; have HB := n8_; clear n0_ n1_ n2_ n3_ n4_ n5_ n6_ n7_ n8_; (try clear hb); (try clear hb2); (try clear hk); (try clear hi); (try clear ho0)) | ((with_reducible refine gate_dst (N := 12) rfl ?_); (try (refine gate_guard (by rfl) ?_; dsimp only)); refine box_event ?hg (N := 12) ?hd (cs := #[.int .i64 0, .slice none 0 0]) (t := 51) ?hr ?_; (case hd => rfl); (case hg => rfl); (case hr => first | (go_simp; done) | (go_simp; rfl)); intro gb394 hg w26 hbox hb; have n0_ := Aside0.mk (Kd.R_below (by (with_reducible repeat (first | apply Kd.R_alloc | apply Kd.R_drewN | apply Kd.R_drew)); exact HO366.out) hb); have n1_ := Aside0.mk (Kd.R_below (by (with_reducible repeat (first | apply Kd.R_alloc | apply Kd.R_drewN | apply Kd.R_drew)); exact HO370.out) hb); have n2_ := Aside0.mk (Kd.R_below (by (with_reducible repeat (first | apply Kd.R_alloc | apply Kd.R_drewN | apply Kd.R_drew)); exact HO375.out) hb); have n3_ := Aside0.mk (Kd.R_below (by (with_reducible repeat (first | apply Kd.R_alloc | apply Kd.R_drewN | apply Kd.R_drew)); exact HO385.out) hb); have n4_ := Aside0.mk (Kd.R_below (by (with_reducible repeat (first | apply Kd.R_alloc | apply Kd.R_drewN | apply Kd.R_drew)); exact HO389.out) hb); have n5_ := Aside0.mk (Kd.R_below (by (with_reducible repeat (first | apply Kd.R_alloc | apply Kd.R_drewN | apply Kd.R_drew)); exact HO393.out) hb); have n6_ := Aside0.mk (blk_below (g := gb372) (o := .cells #[.slice Ao14 t364.length co14, .int .i64 t367] 42 (0, 0)) (by (with_reducible repeat (first | refine blk_drewN ?_ _ | refine blk_drew ?_ | refine blk_alloc ?_ _)); exact BK372.out) hb); have n7_ := Aside0.mk (blk_below (g := gb380) (o := .cells #[.slice Ao19 t373.length co19, .int .i64 t376, .int .i64 t377, .int .i64 t378, .int .i64 t379] 46 (0, 0)) (by (with_reducible repeat (first | refine blk_drewN ?_ _ | refine blk_drew ?_ | refine blk_alloc ?_ _)); exact BK380.out) hb); have n8_ := Aside0.mk (below_step (by repeat (first | (with_reducible first | exact HB.out | apply below_alloc | apply pw_below_drewN | apply below_drew1 | refine below_set ?_ GE372.out | refine below_set ?_ GE380.out) | exact HB.out)) hb); have n9_ := Aside0.mk (hbox); have n10_ := Aside0.mk ((by rw [hg]; exact (below_size (by repeat (first | (with_reducible first | exact HB.out | apply below_alloc | apply pw_below_drewN | apply below_drew1 | refine below_set ?_ GE372.out | refine below_set ?_ GE380.out) | exact HB.out))) : w.heap.size ≤ gb394)); have n11_ := Aside0.mk ((by rw [hg]; exact (below_size (by repeat (first | (with_reducible first | exact HB.out | apply below_alloc | apply pw_below_drewN | apply below_drew1 | refine below_set ?_ GE372.out | refine below_set ?_ GE380.out) | exact HB.out))) : w.heap.size ≤ gb394)); have n12_ := Aside0.mk ((by rw [hg]; exact Nat.ne_of_lt (blk_lt (g := gb372) (o := .cells #[.slice Ao14 t364.length co14, .int .i64 t367] 42 (0, 0)) (by (with_reducible repeat (first | refine blk_drewN ?_ _ | refine blk_drew ?_ | refine blk_alloc ?_ _)); exact BK372.out)) : gb372 ≠ gb394)); have n13_ := Aside0.mk ((by rw [hg]; exact Nat.ne_of_gt (blk_lt (g := gb372) (o := .cells #[.slice Ao14 t364.length co14, .int .i64 t367] 42 (0, 0)) (by (with_reducible repeat (first | refine blk_drewN ?_ _ | refine blk_drew ?_ | refine blk_alloc ?_ _)); exact BK372.out)) : gb394 ≠ gb372)); have n14_ := Aside0.mk ((by rw [hg]; exact Nat.ne_of_lt (blk_lt (g := gb380) (o := .cells #[.slice Ao19 t373.length co19, .int .i64 t376, .int .i64 t377, .int .i64 t378, .int .i64 t379] 46 (0, 0)) (by (with_reducible repeat (first | refine blk_drewN ?_ _ | refine blk_drew ?_ | refine blk_alloc ?_ _)); exact BK380.out)) : gb380 ≠ gb394)); have n15_ := Aside0.mk ((by rw [hg]; exact Nat.ne_of_gt (blk_lt (g := gb380) (o := .cells #[.slice Ao19 t373.length co19, .int .i64 t376, .int .i64 t377, .int .i64 t378, .int .i64 t379] 46 (0, 0)) (by (with_reducible repeat (first | refine blk_drewN ?_ _ | refine blk_drew ?_ | refine blk_alloc ?_ _)); exact BK380.out)) : gb394 ≠ gb380)); clear HO366; clear HO370; clear HO375; clear HO385; clear HO389; clear HO393; clear BK372; clear BK380; clear HB; have HO366 := n0_; have HO370 := n1_; have HO375 := n2_; have HO385 := n3_; have HO389 := n4_; have HO393 := n5_; have BK372 := n6_; have BK380 := n7_; have HB := n8_; have BK394 := n9_; have GW394 := n10_; have GE394 := n11_; have NB372_394 := n12_; have NB394_372 := n13_; have NB380_394 := n14_; have NB394_380 := n15_; clear n0_ n1_ n2_ n3_ n4_ n5_ n6_ n7_ n8_ n9_ n10_ n11_ n12_ n13_ n14_ n15_; clear hb hbox hg) | ((with_reducible refine gate_dst (N := 13) rfl ?_); (try (refine gate_guard (by rfl) ?_; dsimp only)); refine box_event ?hg (N := 13) ?hd (cs := #[.int .i64 0, .slice none 0 0]) (t := 51) ?hr ?_; (case hd => rfl); (case hg => rfl); (case hr => first | (go_simp; done) | (go_simp; rfl)); intro gb395 hg w27 hbox hb; have n0_ := Aside0.mk (Kd.R_below (by (with_reducible repeat (first | apply Kd.R_alloc | apply Kd.R_drewN | apply Kd.R_drew)); exact HO366.out) hb); have n1_ := Aside0.mk (Kd.R_below (by (with_reducible repeat (first | apply Kd.R_alloc | apply Kd.R_drewN | apply Kd.R_drew)); exact HO370.out) hb); have n2_ := Aside0.mk (Kd.R_below (by (with_reducible repeat (first | apply Kd.R_alloc | apply Kd.R_drewN | apply Kd.R_drew)); exact HO375.out) hb); have n3_ := Aside0.mk (Kd.R_below (by (with_reducible repeat (first | apply Kd.R_alloc | apply Kd.R_drewN | apply Kd.R_drew)); exact HO385.out) hb); have n4_ := Aside0.mk (Kd.R_below (by (with_reducible repeat (first | apply Kd.R_alloc | apply Kd.R_drewN | apply Kd.R_drew)); exact HO389.out) hb); have n5_ := Aside0.mk (Kd.R_below (by (with_reducible repeat (first | apply Kd.R_alloc | apply Kd.R_drewN | apply Kd.R_drew)); exact HO393.out) hb); have n6_ := Aside0.mk (blk_below (g := gb372) (o := .cells #[.slice Ao14 t364.length co14, .int .i64 t367] 42 (0, 0)) (by (with_reducible repeat (first | refine blk_drewN ?_ _ | refine blk_drew ?_ | refine blk_alloc ?_ _)); exact BK372.out) hb); have n7_ := Aside0.mk (blk_below (g := gb380) (o := .cells #[.slice Ao19 t373.length co19, .int .i64 t376, .int .i64 t377, .int .i64 t378, .int .i64 t379] 46 (0, 0)) (by (with_reducible repeat (first | refine blk_drewN ?_ _ | refine blk_drew ?_ | refine blk_alloc ?_ _)); exact BK380.out) hb); have n8_ := Aside0.mk (blk_below (g := gb394) (o := .cells #[.int .i64 0, .slice none 0 0] 51 (0, 0)) (by (with_reducible repeat (first | refine blk_drewN ?_ _ | refine blk_drew ?_ | refine blk_alloc ?_ _)); exact BK394.out) hb); have n9_ := Aside0.mk (below_step (by repeat (first | (with_reducible first | exact HB.out | apply below_alloc | apply pw_below_drewN | apply below_drew1 | refine below_set ?_ GE372.out | refine below_set ?_ GE380.out | refine below_set ?_ GE394.out) | exact HB.out)) hb); have n10_ := Aside0.mk (hbox); have n11_ := Aside0.mk ((by rw [hg]; exact (below_size (by repeat (first | (with_reducible first | exact HB.out | apply below_alloc | apply pw_below_drewN | apply below_drew1 | refine below_set ?_ GE372.out | refine below_set ?_ GE380.out | refine below_set ?_ GE394.out) | exact HB.out))) : w.heap.size ≤ gb395)); have n12_ := Aside0.mk ((by rw [hg]; exact (below_size (by repeat (first | (with_reducible first | exact HB.out | apply below_alloc | apply pw_below_drewN | apply below_drew1 | refine below_set ?_ GE372.out | refine below_set ?_ GE380.out | refine below_set ?_ GE394.out) | exact HB.out))) : w.heap.size ≤ gb395)); have n13_ := Aside0.mk ((by rw [hg]; exact Nat.ne_of_lt (blk_lt (g := gb372) (o := .cells #[.slice Ao14 t364.length co14, .int .i64 t367] 42 (0, 0)) (by (with_reducible repeat (first | refine blk_drewN ?_ _ | refine blk_drew ?_ | refine blk_alloc ?_ _)); exact BK372.out)) : gb372 ≠ gb395)); have n14_ := Aside0.mk ((by rw [hg]; exact Nat.ne_of_gt (blk_lt (g := gb372) (o := .cells #[.slice Ao14 t364.length co14, .int .i64 t367] 42 (0, 0)) (by (with_reducible repeat (first | refine blk_drewN ?_ _ | refine blk_drew ?_ | refine blk_alloc ?_ _)); exact BK372.out)) : gb395 ≠ gb372)); have n15_ := Aside0.mk ((by rw [hg]; exact Nat.ne_of_lt (blk_lt (g := gb380) (o := .cells #[.slice Ao19 t373.length co19, .int .i64 t376, .int .i64 t377, .int .i64 t378, .int .i64 t379] 46 (0, 0)) (by (with_reducible repeat (first | refine blk_drewN ?_ _ | refine blk_drew ?_ | refine blk_alloc ?_ _)); exact BK380.out)) : gb380 ≠ gb395)); have n16_ := Aside0.mk ((by rw [hg]; exact Nat.ne_of_gt (blk_lt (g := gb380) (o := .cells #[.slice Ao19 t373.length co19, .int .i64 t376, .int .i64 t377, .int .i64 t378, .int .i64 t379] 46 (0, 0)) (by (with_reducible repeat (first | refine blk_drewN ?_ _ | refine blk_drew ?_ | refine blk_alloc ?_ _)); exact BK380.out)) : gb395 ≠ gb380)); have n17_ := Aside0.mk ((by rw [hg]; exact Nat.ne_of_lt (blk_lt (g := gb394) (o := .cells #[.int .i64 0, .slice none 0 0] 51 (0, 0)) (by (with_reducible repeat (first | refine blk_drewN ?_ _ | refine blk_drew ?_ | refine blk_alloc ?_ _)); exact BK394.out)) : gb394 ≠ gb395)); have n18_ := Aside0.mk ((by rw [hg]; exact Nat.ne_of_gt (blk_lt (g := gb394) (o := .cells #[.int .i64 0, .slice none 0 0] 51 (0, 0)) (by (with_reducible repeat (first | refine blk_drewN ?_ _ | refine blk_drew ?_ | refine blk_alloc ?_ _)); exact BK394.out)) : gb395 ≠ gb394)); clear HO366; clear HO370; clear HO375; clear HO385; clear HO389; clear HO393; clear BK372; clear BK380; clear BK394; clear HB; have HO366 := n0_; have HO370 := n1_; have HO375 := n2_; have HO385 := n3_; have HO389 := n4_; have HO393 := n5_; have BK372 := n6_; have BK380 := n7_; have BK394 := n8_; have HB := n9_; have BK395 := n10_; have GW395 := n11_; have GE395 := n12_; have NB372_395 := n13_; have NB395_372 := n14_; have NB380_395 := n15_; have NB395_380 := n16_; have NB394_395 := n17_; have NB395_394 := n18_; clear n0_ n1_ n2_ n3_ n4_ n5_ n6_ n7_ n8_ n9_ n10_ n11_ n12_ n13_ n14_ n15_ n16_ n17_ n18_; clear hb hbox hg; have hnb28 := NB394_372.out; have hnc28 := NB372_394.out; have hnb29 := NB394_380.out; have hnc29 := NB380_394.out; have hnb30 := NB394_395.out; have hnc30 := NB395_394.out; have hcz31_0 : w27.cell? ⟨gb394, 0, none⟩ = some (.int .i64 0) := (blk_cell BK394.out 0).trans rfl; have hcz31_1 : w27.cell? ⟨gb394, 1, none⟩ = some (.slice none 0 0) := (blk_cell BK394.out 1).trans rfl; have hfz31_0 := blk_frozen BK394.out 0; have hfz31_1 := blk_frozen BK394.out 1; obtain ⟨Ao32, co32, eo32⟩ := Kd.R_slice HO389.out; subst eo32; have hnb33 := NB395_372.out; have hnc33 := NB372_395.out; have hnb34 := NB395_380.out; have hnc34 := NB380_395.out; have hcz35_0 : w27.cell? ⟨gb395, 0, none⟩ = some (.int .i64 0) := (blk_cell BK395.out 0).trans rfl; have hcz35_1 : w27.cell? ⟨gb395, 1, none⟩ = some (.slice none 0 0) := (blk_cell BK395.out 1).trans rfl; have hfz35_0 := blk_frozen BK395.out 0; have hfz35_1 := blk_frozen BK395.out 1; obtain ⟨Ao36, co36, eo36⟩ := Kd.R_slice HO393.out; subst eo36))
        (try simp only [Act.put, List.setIfInBounds_toArray, List.set_cons_zero, List.set_cons_succ])
        go_cut [78] (fun v78 wc => ∃ (kq : Nat) (x78_10 : Bool), v78 = .bool x78_10 ∧ Aside0 (laws_FnTurn.j1 kq t368 t381 x78_10 t373 t376 t377 t378 t379 t386 t387 = some r) ∧ Aside0 (kq ≤ kj2) ∧ Aside0 (Kd.R (Kd.int .i64) 2 wc w.heap.size (fun k_ => some k_ ≠ ((.slice Ao23 t381.length co23) : Value).ownBlock ∧ some k_ ≠ ((.slice Ao14 t364.length co14) : Value).ownBlock ∧ some k_ ≠ ((.slice Ao19 t373.length co19) : Value).ownBlock ∧ some k_ ≠ ((.slice Ao32 t387.length co32) : Value).ownBlock ∧ some k_ ≠ ((.slice Ao36 t391.length co36) : Value).ownBlock) (.slice Ao16 t368.length co16) t368) ∧ Aside0 (Kd.R (Kd.int .i64) 2 wc w.heap.size (fun k_ => some k_ ≠ ((.slice Ao16 t368.length co16) : Value).ownBlock ∧ some k_ ≠ ((.slice Ao14 t364.length co14) : Value).ownBlock ∧ some k_ ≠ ((.slice Ao19 t373.length co19) : Value).ownBlock ∧ some k_ ≠ ((.slice Ao32 t387.length co32) : Value).ownBlock ∧ some k_ ≠ ((.slice Ao36 t391.length co36) : Value).ownBlock) (.slice Ao23 t381.length co23) t381) ∧ Aside0 (Kd.R (Kd.int .i64) 2 wc w.heap.size (fun k_ => some k_ ≠ ((.slice Ao16 t368.length co16) : Value).ownBlock ∧ some k_ ≠ ((.slice Ao23 t381.length co23) : Value).ownBlock ∧ some k_ ≠ ((.slice Ao19 t373.length co19) : Value).ownBlock ∧ some k_ ≠ ((.slice Ao32 t387.length co32) : Value).ownBlock ∧ some k_ ≠ ((.slice Ao36 t391.length co36) : Value).ownBlock) (.slice Ao14 t364.length co14) t364) ∧ Aside0 (Kd.R (Kd.int .i64) 2 wc w.heap.size (fun k_ => some k_ ≠ ((.slice Ao16 t368.length co16) : Value).ownBlock ∧ some k_ ≠ ((.slice Ao23 t381.length co23) : Value).ownBlock ∧ some k_ ≠ ((.slice Ao14 t364.length co14) : Value).ownBlock ∧ some k_ ≠ ((.slice Ao32 t387.length co32) : Value).ownBlock ∧ some k_ ≠ ((.slice Ao36 t391.length co36) : Value).ownBlock) (.slice Ao19 t373.length co19) t373) ∧ Aside0 (Kd.R (Kd.int .i64) 2 wc w.heap.size (fun k_ => some k_ ≠ ((.slice Ao16 t368.length co16) : Value).ownBlock ∧ some k_ ≠ ((.slice Ao23 t381.length co23) : Value).ownBlock ∧ some k_ ≠ ((.slice Ao14 t364.length co14) : Value).ownBlock ∧ some k_ ≠ ((.slice Ao19 t373.length co19) : Value).ownBlock ∧ some k_ ≠ ((.slice Ao36 t391.length co36) : Value).ownBlock) (.slice Ao32 t387.length co32) t387) ∧ Aside0 (Kd.R (Kd.int .i64) 2 wc w.heap.size (fun k_ => some k_ ≠ ((.slice Ao16 t368.length co16) : Value).ownBlock ∧ some k_ ≠ ((.slice Ao23 t381.length co23) : Value).ownBlock ∧ some k_ ≠ ((.slice Ao14 t364.length co14) : Value).ownBlock ∧ some k_ ≠ ((.slice Ao19 t373.length co19) : Value).ownBlock ∧ some k_ ≠ ((.slice Ao32 t387.length co32) : Value).ownBlock) (.slice Ao36 t391.length co36) t391) ∧ Aside0 (wc.heap[gb372]? = some (.cells #[(.slice Ao14 t364.length co14), .int .i64 t367] 42 (0, 0))) ∧ Aside0 (wc.heap[gb380]? = some (.cells #[(.slice Ao19 t373.length co19), .int .i64 t376, .int .i64 t377, .int .i64 t378, .int .i64 t379] 46 (0, 0))) ∧ Aside0 (wc.heap[gb394]? = some (.cells #[.int .i64 t386, (.slice Ao32 t387.length co32)] 51 (0, 0))) ∧ Aside0 (wc.heap[gb395]? = some (.cells #[.int .i64 t390, (.slice Ao36 t391.length co36)] 51 (0, 0))) ∧ Aside0 (Below w.heap.size w wc))
        case first =>
          as_aux_lemma =>
          have H := HC11.out
          clear HC11
          replace H := Option.bind_eq_some_iff.mp H
          obtain ⟨⟨t396, t399, t400, t401, t402⟩, A370, H⟩ := H
          replace H : ((laws_lwTurn.f kj2 t373 t376 t377 t378 t379 t396 t399 t400 t401 t402).bind fun t403 => (if t403 = true then (if t386 = t390 then ((laws_lwNums.f kj2 t387 t391).bind fun t404 => (if t404 = true then ((impl_TurnRight.f kj2 t364 t367).bind fun t405 => ((spec_TurnRight.f kj2 t364 t367).bind fun t406 => (laws_FnTurn.j1 kj2 t368 t381 (t405 != t406) t373 t376 t377 t378 t379 t386 t387))) else (laws_FnTurn.j1 kj2 t368 t381 true t373 t376 t377 t378 t379 t386 t387))) else (laws_FnTurn.j1 kj2 t368 t381 true t373 t376 t377 t378 t379 t386 t387)) else (laws_FnTurn.j1 kj2 t368 t381 true t373 t376 t377 t378 t379 t386 t387))) = some r := H
          have A37 := Aside0.mk A370
          clear A370
          replace H := Option.bind_eq_some_iff.mp H
          obtain ⟨t403, A380, H⟩ := H
          replace H : (if t403 = true then (if t386 = t390 then ((laws_lwNums.f kj2 t387 t391).bind fun t404 => (if t404 = true then ((impl_TurnRight.f kj2 t364 t367).bind fun t405 => ((spec_TurnRight.f kj2 t364 t367).bind fun t406 => (laws_FnTurn.j1 kj2 t368 t381 (t405 != t406) t373 t376 t377 t378 t379 t386 t387))) else (laws_FnTurn.j1 kj2 t368 t381 true t373 t376 t377 t378 t379 t386 t387))) else (laws_FnTurn.j1 kj2 t368 t381 true t373 t376 t377 t378 t379 t386 t387)) else (laws_FnTurn.j1 kj2 t368 t381 true t373 t376 t377 t378 t379 t386 t387)) = some r := H
          have A38 := Aside0.mk A380
          clear A380
          by_cases c39 : t403 = true
          · subst c39
            have H1 : (if t386 = t390 then ((laws_lwNums.f kj2 t387 t391).bind fun t404 => (if t404 = true then ((impl_TurnRight.f kj2 t364 t367).bind fun t405 => ((spec_TurnRight.f kj2 t364 t367).bind fun t406 => (laws_FnTurn.j1 kj2 t368 t381 (t405 != t406) t373 t376 t377 t378 t379 t386 t387))) else (laws_FnTurn.j1 kj2 t368 t381 true t373 t376 t377 t378 t379 t386 t387))) else (laws_FnTurn.j1 kj2 t368 t381 true t373 t376 t377 t378 t379 t386 t387)) = some r := by rw [if_pos rfl] at H; exact H
            clear H
            have H := H1
            clear H1
            by_cases c40 : t386 = t390
            · rw [if_pos c40] at H
              have c40b0 : (t386 == t390) = true := beq_iff_eq.mpr c40
              have c40b1 : (t386 != t390) = false := bne_eq_false_iff_eq.mpr c40
              clear c40
              (first | rw [c40b0] | (simp only [i64_w, i32_w]; rw [c40b0]) | skip)
              replace H := Option.bind_eq_some_iff.mp H
              obtain ⟨t404, A410, H⟩ := H
              replace H : (if t404 = true then ((impl_TurnRight.f kj2 t364 t367).bind fun t405 => ((spec_TurnRight.f kj2 t364 t367).bind fun t406 => (laws_FnTurn.j1 kj2 t368 t381 (t405 != t406) t373 t376 t377 t378 t379 t386 t387))) else (laws_FnTurn.j1 kj2 t368 t381 true t373 t376 t377 t378 t379 t386 t387)) = some r := H
              have A41 := Aside0.mk A410
              clear A410
              by_cases c42 : t404 = true
              · subst c42
                have H1 : ((impl_TurnRight.f kj2 t364 t367).bind fun t405 => ((spec_TurnRight.f kj2 t364 t367).bind fun t406 => (laws_FnTurn.j1 kj2 t368 t381 (t405 != t406) t373 t376 t377 t378 t379 t386 t387))) = some r := by rw [if_pos rfl] at H; exact H
                clear H
                have H := H1
                clear H1
                replace H := Option.bind_eq_some_iff.mp H
                obtain ⟨t405, A430, H⟩ := H
                replace H : ((spec_TurnRight.f kj2 t364 t367).bind fun t406 => (laws_FnTurn.j1 kj2 t368 t381 (t405 != t406) t373 t376 t377 t378 t379 t386 t387)) = some r := H
                have A43 := Aside0.mk A430
                clear A430
                replace H := Option.bind_eq_some_iff.mp H
                obtain ⟨t406, A440, H⟩ := H
                replace H : (laws_FnTurn.j1 kj2 t368 t381 (t405 != t406) t373 t376 t377 t378 t379 t386 t387) = some r := H
                have A44 := Aside0.mk A440
                clear A440
                have H' := Aside0.mk H
                clear H
                try go_wp2
                have n0_ : Aside0 (Kd.R (Kd.int .i64) 2 ((((w27.setCell ⟨gb394, 0, none⟩ (.int .i64 t386)).setCell ⟨gb394, 1, none⟩ (.slice Ao32 t387.length co32)).setCell ⟨gb395, 0, none⟩ (.int .i64 t390)).setCell ⟨gb395, 1, none⟩ (.slice Ao36 t391.length co36)) w.heap.size (fun k_ => some k_ ≠ (.slice Ao16 t368.length co16 : Value).ownBlock ∧ some k_ ≠ (.slice Ao19 t373.length co19 : Value).ownBlock ∧ some k_ ≠ (.slice Ao23 t381.length co23 : Value).ownBlock ∧ some k_ ≠ (.slice Ao32 t387.length co32 : Value).ownBlock ∧ some k_ ≠ (.slice Ao36 t391.length co36 : Value).ownBlock) (.slice Ao14 t364.length co14) t364) := ⟨by (with_reducible repeat (first | apply Kd.R_alloc | apply Kd.R_drewN | apply Kd.R_drew)); exact Kd.R_mono (Kd.R_far (p := ⟨gb395, 1, none⟩) (Kd.R_far (p := ⟨gb395, 0, none⟩) (Kd.R_far (p := ⟨gb394, 1, none⟩) (Kd.R_far (p := ⟨gb394, 0, none⟩) (Kd.R_types (Kd.R_types HO366.out BK394.out (by decide)) BK395.out (by decide)) (fun _ hk => hk.1.2) (.int .i64 t386)) (fun _ hk => hk.1.2) (.slice Ao32 t387.length co32)) (fun _ hk => hk.2) (.int .i64 t390)) (fun _ hk => hk.2) (.slice Ao36 t391.length co36)) (fun _ hk => ⟨hk.1.1.1.1.1.1, ⟨hk.1.1.1.1.1.2, ⟨hk.1.1.1.1.2, ⟨hk.1.1.1.2, hk.1.1.2⟩⟩⟩⟩)⟩
                have n1_ : Aside0 (Kd.R (Kd.int .i64) 2 ((((w27.setCell ⟨gb394, 0, none⟩ (.int .i64 t386)).setCell ⟨gb394, 1, none⟩ (.slice Ao32 t387.length co32)).setCell ⟨gb395, 0, none⟩ (.int .i64 t390)).setCell ⟨gb395, 1, none⟩ (.slice Ao36 t391.length co36)) w.heap.size (fun k_ => some k_ ≠ (.slice Ao14 t364.length co14 : Value).ownBlock ∧ some k_ ≠ (.slice Ao19 t373.length co19 : Value).ownBlock ∧ some k_ ≠ (.slice Ao23 t381.length co23 : Value).ownBlock ∧ some k_ ≠ (.slice Ao32 t387.length co32 : Value).ownBlock ∧ some k_ ≠ (.slice Ao36 t391.length co36 : Value).ownBlock) (.slice Ao16 t368.length co16) t368) := ⟨by (with_reducible repeat (first | apply Kd.R_alloc | apply Kd.R_drewN | apply Kd.R_drew)); exact Kd.R_mono (Kd.R_far (p := ⟨gb395, 1, none⟩) (Kd.R_far (p := ⟨gb395, 0, none⟩) (Kd.R_far (p := ⟨gb394, 1, none⟩) (Kd.R_far (p := ⟨gb394, 0, none⟩) (Kd.R_types (Kd.R_types HO370.out BK394.out (by decide)) BK395.out (by decide)) (fun _ hk => hk.1.2) (.int .i64 t386)) (fun _ hk => hk.1.2) (.slice Ao32 t387.length co32)) (fun _ hk => hk.2) (.int .i64 t390)) (fun _ hk => hk.2) (.slice Ao36 t391.length co36)) (fun _ hk => ⟨hk.1.1.1.1.1.1, ⟨hk.1.1.1.1.1.2, ⟨hk.1.1.1.1.2, ⟨hk.1.1.1.2, hk.1.1.2⟩⟩⟩⟩)⟩
                have n2_ : Aside0 (Kd.R (Kd.int .i64) 2 ((((w27.setCell ⟨gb394, 0, none⟩ (.int .i64 t386)).setCell ⟨gb394, 1, none⟩ (.slice Ao32 t387.length co32)).setCell ⟨gb395, 0, none⟩ (.int .i64 t390)).setCell ⟨gb395, 1, none⟩ (.slice Ao36 t391.length co36)) w.heap.size (fun k_ => some k_ ≠ (.slice Ao14 t364.length co14 : Value).ownBlock ∧ some k_ ≠ (.slice Ao16 t368.length co16 : Value).ownBlock ∧ some k_ ≠ (.slice Ao23 t381.length co23 : Value).ownBlock ∧ some k_ ≠ (.slice Ao32 t387.length co32 : Value).ownBlock ∧ some k_ ≠ (.slice Ao36 t391.length co36 : Value).ownBlock) (.slice Ao19 t373.length co19) t373) := ⟨by (with_reducible repeat (first | apply Kd.R_alloc | apply Kd.R_drewN | apply Kd.R_drew)); exact Kd.R_mono (Kd.R_far (p := ⟨gb395, 1, none⟩) (Kd.R_far (p := ⟨gb395, 0, none⟩) (Kd.R_far (p := ⟨gb394, 1, none⟩) (Kd.R_far (p := ⟨gb394, 0, none⟩) (Kd.R_types (Kd.R_types HO375.out BK394.out (by decide)) BK395.out (by decide)) (fun _ hk => hk.1.2) (.int .i64 t386)) (fun _ hk => hk.1.2) (.slice Ao32 t387.length co32)) (fun _ hk => hk.2) (.int .i64 t390)) (fun _ hk => hk.2) (.slice Ao36 t391.length co36)) (fun _ hk => ⟨hk.1.1.1.1.1.1.2, ⟨hk.1.1.1.1.1.2, ⟨hk.1.1.1.1.2, ⟨hk.1.1.1.2, hk.1.1.2⟩⟩⟩⟩)⟩
                have n3_ : Aside0 (Kd.R (Kd.int .i64) 2 ((((w27.setCell ⟨gb394, 0, none⟩ (.int .i64 t386)).setCell ⟨gb394, 1, none⟩ (.slice Ao32 t387.length co32)).setCell ⟨gb395, 0, none⟩ (.int .i64 t390)).setCell ⟨gb395, 1, none⟩ (.slice Ao36 t391.length co36)) w.heap.size (fun k_ => some k_ ≠ (.slice Ao14 t364.length co14 : Value).ownBlock ∧ some k_ ≠ (.slice Ao16 t368.length co16 : Value).ownBlock ∧ some k_ ≠ (.slice Ao19 t373.length co19 : Value).ownBlock ∧ some k_ ≠ (.slice Ao32 t387.length co32 : Value).ownBlock ∧ some k_ ≠ (.slice Ao36 t391.length co36 : Value).ownBlock) (.slice Ao23 t381.length co23) t381) := ⟨by (with_reducible repeat (first | apply Kd.R_alloc | apply Kd.R_drewN | apply Kd.R_drew)); exact Kd.R_mono (Kd.R_far (p := ⟨gb395, 1, none⟩) (Kd.R_far (p := ⟨gb395, 0, none⟩) (Kd.R_far (p := ⟨gb394, 1, none⟩) (Kd.R_far (p := ⟨gb394, 0, none⟩) (Kd.R_types (Kd.R_types HO385.out BK394.out (by decide)) BK395.out (by decide)) (fun _ hk => hk.1.2) (.int .i64 t386)) (fun _ hk => hk.1.2) (.slice Ao32 t387.length co32)) (fun _ hk => hk.2) (.int .i64 t390)) (fun _ hk => hk.2) (.slice Ao36 t391.length co36)) (fun _ hk => ⟨hk.1.1.1.1.1.1.2, ⟨hk.1.1.1.1.1.2, ⟨hk.1.1.1.1.2, ⟨hk.1.1.1.2, hk.1.1.2⟩⟩⟩⟩)⟩
                have n4_ : Aside0 (Kd.R (Kd.int .i64) 2 ((((w27.setCell ⟨gb394, 0, none⟩ (.int .i64 t386)).setCell ⟨gb394, 1, none⟩ (.slice Ao32 t387.length co32)).setCell ⟨gb395, 0, none⟩ (.int .i64 t390)).setCell ⟨gb395, 1, none⟩ (.slice Ao36 t391.length co36)) w.heap.size (fun k_ => some k_ ≠ (.slice Ao14 t364.length co14 : Value).ownBlock ∧ some k_ ≠ (.slice Ao16 t368.length co16 : Value).ownBlock ∧ some k_ ≠ (.slice Ao19 t373.length co19 : Value).ownBlock ∧ some k_ ≠ (.slice Ao23 t381.length co23 : Value).ownBlock ∧ some k_ ≠ (.slice Ao36 t391.length co36 : Value).ownBlock) (.slice Ao32 t387.length co32) t387) := ⟨by (with_reducible repeat (first | apply Kd.R_alloc | apply Kd.R_drewN | apply Kd.R_drew)); exact Kd.R_mono (Kd.R_far (p := ⟨gb395, 1, none⟩) (Kd.R_far (p := ⟨gb395, 0, none⟩) (Kd.R_far (p := ⟨gb394, 1, none⟩) (Kd.R_far (p := ⟨gb394, 0, none⟩) (Kd.R_types (Kd.R_types HO389.out BK394.out (by decide)) BK395.out (by decide)) (fun _ hk => hk.1.2) (.int .i64 t386)) (fun _ hk => hk.1.2) (.slice Ao32 t387.length co32)) (fun _ hk => hk.2) (.int .i64 t390)) (fun _ hk => hk.2) (.slice Ao36 t391.length co36)) (fun _ hk => ⟨hk.1.1.1.1.1.1.2, ⟨hk.1.1.1.1.1.2, ⟨hk.1.1.1.1.2, ⟨hk.1.1.1.2, hk.1.1.2⟩⟩⟩⟩)⟩
                have n5_ : Aside0 (Kd.R (Kd.int .i64) 2 ((((w27.setCell ⟨gb394, 0, none⟩ (.int .i64 t386)).setCell ⟨gb394, 1, none⟩ (.slice Ao32 t387.length co32)).setCell ⟨gb395, 0, none⟩ (.int .i64 t390)).setCell ⟨gb395, 1, none⟩ (.slice Ao36 t391.length co36)) w.heap.size (fun k_ => some k_ ≠ (.slice Ao14 t364.length co14 : Value).ownBlock ∧ some k_ ≠ (.slice Ao16 t368.length co16 : Value).ownBlock ∧ some k_ ≠ (.slice Ao19 t373.length co19 : Value).ownBlock ∧ some k_ ≠ (.slice Ao23 t381.length co23 : Value).ownBlock ∧ some k_ ≠ (.slice Ao32 t387.length co32 : Value).ownBlock) (.slice Ao36 t391.length co36) t391) := ⟨by (with_reducible repeat (first | apply Kd.R_alloc | apply Kd.R_drewN | apply Kd.R_drew)); exact Kd.R_mono (Kd.R_far (p := ⟨gb395, 1, none⟩) (Kd.R_far (p := ⟨gb395, 0, none⟩) (Kd.R_far (p := ⟨gb394, 1, none⟩) (Kd.R_far (p := ⟨gb394, 0, none⟩) (Kd.R_types (Kd.R_types HO393.out BK394.out (by decide)) BK395.out (by decide)) (fun _ hk => hk.1.2) (.int .i64 t386)) (fun _ hk => hk.1.2) (.slice Ao32 t387.length co32)) (fun _ hk => hk.2) (.int .i64 t390)) (fun _ hk => hk.2) (.slice Ao36 t391.length co36)) (fun _ hk => ⟨hk.1.1.1.1.1.1.2, ⟨hk.1.1.1.1.1.2, ⟨hk.1.1.1.1.2, ⟨hk.1.1.1.2, hk.1.1.2⟩⟩⟩⟩)⟩
                have n6_ : Aside0 (((((w27.setCell ⟨gb394, 0, none⟩ (.int .i64 t386)).setCell ⟨gb394, 1, none⟩ (.slice Ao32 t387.length co32)).setCell ⟨gb395, 0, none⟩ (.int .i64 t390)).setCell ⟨gb395, 1, none⟩ (.slice Ao36 t391.length co36)).heap[gb372]? = some (.cells #[.slice Ao14 t364.length co14, .int .i64 t367] 42 (0, 0))) := ⟨by (with_reducible repeat (first | refine blk_drewN ?_ _ | refine blk_drew ?_ | refine blk_alloc ?_ _)); refine blk_far ?_ NB372_395.out _; (with_reducible repeat (first | refine blk_drewN ?_ _ | refine blk_drew ?_ | refine blk_alloc ?_ _)); refine blk_far ?_ NB372_395.out _; (with_reducible repeat (first | refine blk_drewN ?_ _ | refine blk_drew ?_ | refine blk_alloc ?_ _)); refine blk_far ?_ NB372_394.out _; (with_reducible repeat (first | refine blk_drewN ?_ _ | refine blk_drew ?_ | refine blk_alloc ?_ _)); refine blk_far ?_ NB372_394.out _; (with_reducible repeat (first | refine blk_drewN ?_ _ | refine blk_drew ?_ | refine blk_alloc ?_ _)); exact BK372.out⟩
                have n7_ : Aside0 (((((w27.setCell ⟨gb394, 0, none⟩ (.int .i64 t386)).setCell ⟨gb394, 1, none⟩ (.slice Ao32 t387.length co32)).setCell ⟨gb395, 0, none⟩ (.int .i64 t390)).setCell ⟨gb395, 1, none⟩ (.slice Ao36 t391.length co36)).heap[gb380]? = some (.cells #[.slice Ao19 t373.length co19, .int .i64 t376, .int .i64 t377, .int .i64 t378, .int .i64 t379] 46 (0, 0))) := ⟨by (with_reducible repeat (first | refine blk_drewN ?_ _ | refine blk_drew ?_ | refine blk_alloc ?_ _)); refine blk_far ?_ NB380_395.out _; (with_reducible repeat (first | refine blk_drewN ?_ _ | refine blk_drew ?_ | refine blk_alloc ?_ _)); refine blk_far ?_ NB380_395.out _; (with_reducible repeat (first | refine blk_drewN ?_ _ | refine blk_drew ?_ | refine blk_alloc ?_ _)); refine blk_far ?_ NB380_394.out _; (with_reducible repeat (first | refine blk_drewN ?_ _ | refine blk_drew ?_ | refine blk_alloc ?_ _)); refine blk_far ?_ NB380_394.out _; (with_reducible repeat (first | refine blk_drewN ?_ _ | refine blk_drew ?_ | refine blk_alloc ?_ _)); exact BK380.out⟩
                have n8_ : Aside0 (((((w27.setCell ⟨gb394, 0, none⟩ (.int .i64 t386)).setCell ⟨gb394, 1, none⟩ (.slice Ao32 t387.length co32)).setCell ⟨gb395, 0, none⟩ (.int .i64 t390)).setCell ⟨gb395, 1, none⟩ (.slice Ao36 t391.length co36)).heap[gb394]? = some (.cells #[.int .i64 t386, .slice Ao32 t387.length co32] 51 (0, 0))) := ⟨by (with_reducible repeat (first | refine blk_drewN ?_ _ | refine blk_drew ?_ | refine blk_alloc ?_ _)); refine blk_far ?_ NB394_395.out _; (with_reducible repeat (first | refine blk_drewN ?_ _ | refine blk_drew ?_ | refine blk_alloc ?_ _)); refine blk_far ?_ NB394_395.out _; (with_reducible repeat (first | refine blk_drewN ?_ _ | refine blk_drew ?_ | refine blk_alloc ?_ _)); refine blk_put (cs := #[.int .i64 t386, .slice none 0 0]) ?_ 1 _ rfl; (with_reducible repeat (first | refine blk_drewN ?_ _ | refine blk_drew ?_ | refine blk_alloc ?_ _)); refine blk_put (cs := #[.int .i64 0, .slice none 0 0]) ?_ 0 _ rfl; (with_reducible repeat (first | refine blk_drewN ?_ _ | refine blk_drew ?_ | refine blk_alloc ?_ _)); exact BK394.out⟩
                have n9_ : Aside0 (((((w27.setCell ⟨gb394, 0, none⟩ (.int .i64 t386)).setCell ⟨gb394, 1, none⟩ (.slice Ao32 t387.length co32)).setCell ⟨gb395, 0, none⟩ (.int .i64 t390)).setCell ⟨gb395, 1, none⟩ (.slice Ao36 t391.length co36)).heap[gb395]? = some (.cells #[.int .i64 t390, .slice Ao36 t391.length co36] 51 (0, 0))) := ⟨by (with_reducible repeat (first | refine blk_drewN ?_ _ | refine blk_drew ?_ | refine blk_alloc ?_ _)); refine blk_put (cs := #[.int .i64 t390, .slice none 0 0]) ?_ 1 _ rfl; (with_reducible repeat (first | refine blk_drewN ?_ _ | refine blk_drew ?_ | refine blk_alloc ?_ _)); refine blk_put (cs := #[.int .i64 0, .slice none 0 0]) ?_ 0 _ rfl; (with_reducible repeat (first | refine blk_drewN ?_ _ | refine blk_drew ?_ | refine blk_alloc ?_ _)); refine blk_far ?_ NB395_394.out _; (with_reducible repeat (first | refine blk_drewN ?_ _ | refine blk_drew ?_ | refine blk_alloc ?_ _)); refine blk_far ?_ NB395_394.out _; (with_reducible repeat (first | refine blk_drewN ?_ _ | refine blk_drew ?_ | refine blk_alloc ?_ _)); exact BK395.out⟩
                have n10_ : Aside0 (Below w.heap.size w ((((w27.setCell ⟨gb394, 0, none⟩ (.int .i64 t386)).setCell ⟨gb394, 1, none⟩ (.slice Ao32 t387.length co32)).setCell ⟨gb395, 0, none⟩ (.int .i64 t390)).setCell ⟨gb395, 1, none⟩ (.slice Ao36 t391.length co36))) := ⟨by repeat (first | (with_reducible first | exact HB.out | apply below_alloc | apply pw_below_drewN | apply below_drew1 | refine below_set ?_ GE372.out | refine below_set ?_ GE380.out | refine below_set ?_ GE394.out | refine below_set ?_ GE395.out) | exact HB.out)⟩
                (try clear HO366)
                (try clear HO370)
                (try clear HO375)
                (try clear HO385)
                (try clear HO389)
                (try clear HO393)
                (try clear BK372)
                (try clear BK380)
                (try clear BK394)
                (try clear BK395)
                (try clear HB)
                generalize ((((w27.setCell ⟨gb394, 0, none⟩ (.int .i64 t386)).setCell ⟨gb394, 1, none⟩ (.slice Ao32 t387.length co32)).setCell ⟨gb395, 0, none⟩ (.int .i64 t390)).setCell ⟨gb395, 1, none⟩ (.slice Ao36 t391.length co36)) = w45 at n0_ n1_ n2_ n3_ n4_ n5_ n6_ n7_ n8_ n9_ n10_ ⊢
                have HO366 := n0_
                have HO370 := n1_
                have HO375 := n2_
                have HO385 := n3_
                have HO389 := n4_
                have HO393 := n5_
                have BK372 := n6_
                have BK380 := n7_
                have BK394 := n8_
                have BK395 := n9_
                have HB := n10_
                clear n0_ n1_ n2_ n3_ n4_ n5_ n6_ n7_ n8_ n9_ n10_
                have n0_ := Aside0.mk (Kd.R_drew HO366.out)
                have n1_ := Aside0.mk (Kd.R_drew HO370.out)
                have n2_ := Aside0.mk (Kd.R_drew HO375.out)
                have n3_ := Aside0.mk (Kd.R_drew HO385.out)
                have n4_ := Aside0.mk (Kd.R_drew HO389.out)
                have n5_ := Aside0.mk (Kd.R_drew HO393.out)
                have n6_ := Aside0.mk (blk_drew BK372.out)
                have n7_ := Aside0.mk (blk_drew BK380.out)
                have n8_ := Aside0.mk (blk_drew BK394.out)
                have n9_ := Aside0.mk (blk_drew BK395.out)
                have n10_ := Aside0.mk (below_drew1 HB.out)
                clear HO366
                clear HO370
                clear HO375
                clear HO385
                clear HO389
                clear HO393
                clear BK372
                clear BK380
                clear BK394
                clear BK395
                clear HB
                have HO366 := n0_
                have HO370 := n1_
                have HO375 := n2_
                have HO385 := n3_
                have HO389 := n4_
                have HO393 := n5_
                have BK372 := n6_
                have BK380 := n7_
                have BK394 := n8_
                have BK395 := n9_
                have HB := n10_
                clear n0_ n1_ n2_ n3_ n4_ n5_ n6_ n7_ n8_ n9_ n10_
                refine start_ (n := 29) (S := fun w' => w'.cell? ⟨gb380, 0, none⟩ = some (.slice Ao19 t373.length co19) ∧ w'.cell? ⟨gb380, 1, none⟩ = some (.int .i64 t376) ∧ w'.cell? ⟨gb380, 2, none⟩ = some (.int .i64 t377) ∧ w'.cell? ⟨gb380, 3, none⟩ = some (.int .i64 t378) ∧ w'.cell? ⟨gb380, 4, none⟩ = some (.int .i64 t379) ∧ w'.cell? ⟨gb372, 0, none⟩ = some (.slice Ao14 t364.length co14) ∧ w'.cell? ⟨gb372, 1, none⟩ = some (.int .i64 t367) ∧ w'.cell? ⟨gb394, 0, none⟩ = some (.int .i64 t386) ∧ w'.cell? ⟨gb394, 1, none⟩ = some (.slice Ao32 t387.length co32) ∧ w'.cell? ⟨gb395, 0, none⟩ = some (.int .i64 t390) ∧ w'.cell? ⟨gb395, 1, none⟩ = some (.slice Ao36 t391.length co36)) (ds := []) #[false, false, false, false, false, false, false, false, false, false, false, false, false, false, false, false, false, false, false, false, false, false, false, false, false, false, false, false, false] (by kernel_rfl) rfl rfl ⟨(blk_cell BK380.out 0).trans rfl, (blk_cell BK380.out 1).trans rfl, (blk_cell BK380.out 2).trans rfl, (blk_cell BK380.out 3).trans rfl, (blk_cell BK380.out 4).trans rfl, (blk_cell BK372.out 0).trans rfl, (blk_cell BK372.out 1).trans rfl, (blk_cell BK394.out 0).trans rfl, (blk_cell BK394.out 1).trans rfl, (blk_cell BK395.out 0).trans rfl, (blk_cell BK395.out 1).trans rfl⟩ (fun hHeld => ?_); refine with_tabW laws_FnTurn.tab7 laws_FnTurn.bits7 (fun HT_ HW_ => ?_)
                generalize w45.drew = w46 at HO366 HO370 HO375 HO385 HO389 HO393 BK372 BK380 BK394 BK395 HB hHeld ⊢
                refine pure_ (i := 2) (N := some 52) (v := ?_) (a' := ?_) #[false, false, true, false, false, false, false, false, false, false, false, false, false, false, false, false, false, false, false, false, false, false, false, false, false, false, false, false, false] rfl rfl (any_of HT_.out (by kernel_rfl)) (fun _ _ _ h => h) (Or.inl ⟨by rfl, ?_⟩) ?_ ?_
                rotate_left
                · intro w'
                  go_simp
                  with_reducible rfl
                rotate_left
                · simp only [Act.put, List.setIfInBounds_toArray, List.set_cons_zero, List.set_cons_succ, i64_w, i32_w]
                  rfl
                refine pure_ (i := 3) (N := some 53) (v := ?_) (a' := ?_) #[false, false, true, true, false, false, false, false, false, false, false, false, false, false, false, false, false, false, false, false, false, false, false, false, false, false, false, false, false] rfl rfl (any_of HT_.out (by kernel_rfl)) (fun _ _ _ h => h) (Or.inl ⟨by rfl, ?_⟩) ?_ ?_
                rotate_left
                · intro w'
                  go_simp
                  with_reducible rfl
                rotate_left
                · simp only [Act.put, List.setIfInBounds_toArray, List.set_cons_zero, List.set_cons_succ, i64_w, i32_w]
                  rfl
                refine take_ (i := 0) (N := some 50) (v := ?_) (a' := ?_) #[true, false, true, true, false, false, false, false, false, false, false, false, false, false, false, false, false, false, false, false, false, false, false, false, false, false, false, false, false] rfl rfl (take_ofW HT_.out HW_.out (by kernel_rfl)) (fun _ _ _ h => h) (Or.inl ⟨by rfl, ?_⟩) hHeld ?_ ?_
                rotate_left
                · rintro w' ⟨s0, s1, s2, s3, s4, s5, s6, s7, s8, s9, s10⟩
                  go_simp
                  with_reducible rfl
                rotate_left
                · simp only [Act.put, List.setIfInBounds_toArray, List.set_cons_zero, List.set_cons_succ, i64_w, i32_w]
                  rfl
                refine take_ (i := 1) (N := some 51) (v := ?_) (a' := ?_) #[true, true, true, true, false, false, false, false, false, false, false, false, false, false, false, false, false, false, false, false, false, false, false, false, false, false, false, false, false] rfl rfl (take_ofW HT_.out HW_.out (by kernel_rfl)) (fun _ _ _ h => h) (Or.inl ⟨by rfl, ?_⟩) hHeld ?_ ?_
                rotate_left
                · rintro w' ⟨s0, s1, s2, s3, s4, s5, s6, s7, s8, s9, s10⟩
                  go_simp
                  with_reducible rfl
                rotate_left
                · simp only [Act.put, List.setIfInBounds_toArray, List.set_cons_zero, List.set_cons_succ, i64_w, i32_w]
                  rfl
                refine one_ (i := 4) (N := some 54) #[true, true, true, true, true, false, false, false, false, false, false, false, false, false, false, false, false, false, false, false, false, false, false, false, false, false, false, false, false] rfl rfl (one_of HT_.out (by kernel_rfl)) (by decide) (fun K hK => ?_)
                refine goes_ Try.func30 (by kernel_rfl) rfl #[.agg #[.slice Ao14 t364.length co14, .int .i64 t367], .slice Ao16 t368.length co16, .int .i64 t371] (by rfl) rfl rfl (by (try simp only [List.map_toArray, List.map_cons, List.map_nil]); first | done | rfl | (simp only [List.length_drop, List.length_take]; rfl)) ?_
                with_reducible refine (spec_TurnNext.calls kj2 _ _ t364 t367 _ _ t368 t371 t396 t399 t400 t401 t402 _ ?side1 ?side2 ?side3 ?side4 A37.out).mono ?_
                (case side1 => repeat (first | exact (Kd.R_reads' HO366.out).2.2 | (with_reducible refine Kd.C_alloc ?_ _) | (with_reducible refine Kd.C_drewN ?_ _) | (with_reducible refine Kd.C_drew ?_)))
                (case side2 => exact (Kd.R_reads' HO366.out).2.1)
                (case side3 => repeat (first | exact (Kd.R_reads' HO370.out).2.2 | (with_reducible refine Kd.C_alloc ?_ _) | (with_reducible refine Kd.C_drewN ?_ _) | (with_reducible refine Kd.C_drew ?_)))
                (case side4 => exact (Kd.R_reads' HO370.out).2.1)
                rintro e w47 ⟨v397, rfl, ho0, hb⟩
                refine ⟨_, rfl, ?_⟩
                have n0_ := Aside0.mk (Kd.R_elder' (by (with_reducible repeat (first | apply Kd.R_alloc | apply Kd.R_drewN | apply Kd.R_drew)); exact HO366.out) (Kd.R_base ho0) hb)
                have n1_ := Aside0.mk (Kd.R_elder' (by (with_reducible repeat (first | apply Kd.R_alloc | apply Kd.R_drewN | apply Kd.R_drew)); exact HO370.out) (Kd.R_base ho0) hb)
                have n2_ := Aside0.mk (Kd.R_elder' (by (with_reducible repeat (first | apply Kd.R_alloc | apply Kd.R_drewN | apply Kd.R_drew)); exact HO375.out) (Kd.R_base ho0) hb)
                have n3_ := Aside0.mk (Kd.R_elder' (by (with_reducible repeat (first | apply Kd.R_alloc | apply Kd.R_drewN | apply Kd.R_drew)); exact HO385.out) (Kd.R_base ho0) hb)
                have n4_ := Aside0.mk (Kd.R_elder' (by (with_reducible repeat (first | apply Kd.R_alloc | apply Kd.R_drewN | apply Kd.R_drew)); exact HO389.out) (Kd.R_base ho0) hb)
                have n5_ := Aside0.mk (Kd.R_elder' (by (with_reducible repeat (first | apply Kd.R_alloc | apply Kd.R_drewN | apply Kd.R_drew)); exact HO393.out) (Kd.R_base ho0) hb)
                have n6_ := Aside0.mk (Kd.R_lower (Kd.R_new' (Kd.R_new' (Kd.R_new' (Kd.R_new' (Kd.R_new' (Kd.R_new' ho0 (Kd.R_lt (by (with_reducible repeat (first | apply Kd.R_alloc | apply Kd.R_drewN | apply Kd.R_drew)); exact HO366.out))) (Kd.R_lt (by (with_reducible repeat (first | apply Kd.R_alloc | apply Kd.R_drewN | apply Kd.R_drew)); exact HO370.out))) (Kd.R_lt (by (with_reducible repeat (first | apply Kd.R_alloc | apply Kd.R_drewN | apply Kd.R_drew)); exact HO375.out))) (Kd.R_lt (by (with_reducible repeat (first | apply Kd.R_alloc | apply Kd.R_drewN | apply Kd.R_drew)); exact HO385.out))) (Kd.R_lt (by (with_reducible repeat (first | apply Kd.R_alloc | apply Kd.R_drewN | apply Kd.R_drew)); exact HO389.out))) (Kd.R_lt (by (with_reducible repeat (first | apply Kd.R_alloc | apply Kd.R_drewN | apply Kd.R_drew)); exact HO393.out))) (below_size (by repeat (first | (with_reducible first | exact HB.out | apply below_alloc | apply pw_below_drewN | apply below_drew1 | refine below_set ?_ GE372.out | refine below_set ?_ GE380.out | refine below_set ?_ GE394.out | refine below_set ?_ GE395.out) | exact HB.out))))
                have n7_ := Aside0.mk (blk_below (g := gb372) (o := .cells #[.slice Ao14 t364.length co14, .int .i64 t367] 42 (0, 0)) (by (with_reducible repeat (first | refine blk_drewN ?_ _ | refine blk_drew ?_ | refine blk_alloc ?_ _)); exact BK372.out) hb)
                have n8_ := Aside0.mk (blk_below (g := gb380) (o := .cells #[.slice Ao19 t373.length co19, .int .i64 t376, .int .i64 t377, .int .i64 t378, .int .i64 t379] 46 (0, 0)) (by (with_reducible repeat (first | refine blk_drewN ?_ _ | refine blk_drew ?_ | refine blk_alloc ?_ _)); exact BK380.out) hb)
                have n9_ := Aside0.mk (blk_below (g := gb394) (o := .cells #[.int .i64 t386, .slice Ao32 t387.length co32] 51 (0, 0)) (by (with_reducible repeat (first | refine blk_drewN ?_ _ | refine blk_drew ?_ | refine blk_alloc ?_ _)); exact BK394.out) hb)
                have n10_ := Aside0.mk (blk_below (g := gb395) (o := .cells #[.int .i64 t390, .slice Ao36 t391.length co36] 51 (0, 0)) (by (with_reducible repeat (first | refine blk_drewN ?_ _ | refine blk_drew ?_ | refine blk_alloc ?_ _)); exact BK395.out) hb)
                have n11_ := Aside0.mk (below_step (by repeat (first | (with_reducible first | exact HB.out | apply below_alloc | apply pw_below_drewN | apply below_drew1 | refine below_set ?_ GE372.out | refine below_set ?_ GE380.out | refine below_set ?_ GE394.out | refine below_set ?_ GE395.out) | exact HB.out)) hb)
                clear HO366
                clear HO370
                clear HO375
                clear HO385
                clear HO389
                clear HO393
                clear BK372
                clear BK380
                clear BK394
                clear BK395
                clear HB
                have HO366 := n0_
                have HO370 := n1_
                have HO375 := n2_
                have HO385 := n3_
                have HO389 := n4_
                have HO393 := n5_
                have HO398 := n6_
                have BK372 := n7_
                have BK380 := n8_
                have BK394 := n9_
                have BK395 := n10_
                have HB := n11_
                clear n0_ n1_ n2_ n3_ n4_ n5_ n6_ n7_ n8_ n9_ n10_ n11_
                (try clear hb)
                (try clear hb2)
                (try clear hk)
                (try clear hi)
                (try clear ho0)
                obtain ⟨Ao48, co48, eo48⟩ := Kd.R_slice HO398.out
                (first | subst eo48 | (injection eo48 with f1_ f2_ f3_; have f4_ := f1_.symm; have f5_ := f3_.symm; clear f1_ f2_ f3_; subst f4_; subst f5_))
                refine hK.out _ _ ⟨(blk_cell BK380.out 0).trans rfl, (blk_cell BK380.out 1).trans rfl, (blk_cell BK380.out 2).trans rfl, (blk_cell BK380.out 3).trans rfl, (blk_cell BK380.out 4).trans rfl, (blk_cell BK372.out 0).trans rfl, (blk_cell BK372.out 1).trans rfl, (blk_cell BK394.out 0).trans rfl, (blk_cell BK394.out 1).trans rfl, (blk_cell BK395.out 0).trans rfl, (blk_cell BK395.out 1).trans rfl⟩ (fun hHeld => ?_)
                clear hK K
                refine norm_ (a' := ?_) ?_ ?_
                rotate_left
                · show Act.put _ (some 54) _ = _
                  simp only [Act.put, List.setIfInBounds_toArray, List.set_cons_zero, List.set_cons_succ, i64_w, i32_w]
                  rfl
                refine one_ (i := 5) (N := some 55) #[true, true, true, true, true, true, false, false, false, false, false, false, false, false, false, false, false, false, false, false, false, false, false, false, false, false, false, false, false] rfl rfl (one_of HT_.out (by kernel_rfl)) (by decide) (fun K hK => ?_)
                refine goes_ Try.func29 (by kernel_rfl) rfl #[.agg #[.slice Ao19 t373.length co19, .int .i64 t376, .int .i64 t377, .int .i64 t378, .int .i64 t379], .agg #[.slice Ao48 t396.length co48, .int .i64 t399, .int .i64 t400, .int .i64 t401, .int .i64 t402]] (by rfl) rfl rfl (by (try simp only [List.map_toArray, List.map_cons, List.map_nil]); first | done | rfl | (simp only [List.length_drop, List.length_take]; rfl)) ?_
                with_reducible refine (laws_lwTurn.calls kj2 _ _ t373 t376 t377 t378 t379 _ _ t396 t399 t400 t401 t402 true _ ?side1 ?side2 ?side3 ?side4 A38.out).mono ?_
                (case side1 => repeat (first | exact (Kd.R_reads' HO375.out).2.2 | (with_reducible refine Kd.C_alloc ?_ _) | (with_reducible refine Kd.C_drewN ?_ _) | (with_reducible refine Kd.C_drew ?_)))
                (case side2 => exact (Kd.R_reads' HO375.out).2.1)
                (case side3 => repeat (first | exact (Kd.R_reads' HO398.out).2.2 | (with_reducible refine Kd.C_alloc ?_ _) | (with_reducible refine Kd.C_drewN ?_ _) | (with_reducible refine Kd.C_drew ?_)))
                (case side4 => exact (Kd.R_reads' HO398.out).2.1)
                rintro e w49 ⟨rfl, hb⟩
                refine ⟨_, rfl, ?_⟩
                have n0_ := Aside0.mk (Kd.R_below (by (with_reducible repeat (first | apply Kd.R_alloc | apply Kd.R_drewN | apply Kd.R_drew)); exact HO366.out) hb)
                have n1_ := Aside0.mk (Kd.R_below (by (with_reducible repeat (first | apply Kd.R_alloc | apply Kd.R_drewN | apply Kd.R_drew)); exact HO370.out) hb)
                have n2_ := Aside0.mk (Kd.R_below (by (with_reducible repeat (first | apply Kd.R_alloc | apply Kd.R_drewN | apply Kd.R_drew)); exact HO375.out) hb)
                have n3_ := Aside0.mk (Kd.R_below (by (with_reducible repeat (first | apply Kd.R_alloc | apply Kd.R_drewN | apply Kd.R_drew)); exact HO385.out) hb)
                have n4_ := Aside0.mk (Kd.R_below (by (with_reducible repeat (first | apply Kd.R_alloc | apply Kd.R_drewN | apply Kd.R_drew)); exact HO389.out) hb)
                have n5_ := Aside0.mk (Kd.R_below (by (with_reducible repeat (first | apply Kd.R_alloc | apply Kd.R_drewN | apply Kd.R_drew)); exact HO393.out) hb)
                have n6_ := Aside0.mk (Kd.R_below (by (with_reducible repeat (first | apply Kd.R_alloc | apply Kd.R_drewN | apply Kd.R_drew)); exact HO398.out) hb)
                have n7_ := Aside0.mk (blk_below (g := gb372) (o := .cells #[.slice Ao14 t364.length co14, .int .i64 t367] 42 (0, 0)) (by (with_reducible repeat (first | refine blk_drewN ?_ _ | refine blk_drew ?_ | refine blk_alloc ?_ _)); exact BK372.out) hb)
                have n8_ := Aside0.mk (blk_below (g := gb380) (o := .cells #[.slice Ao19 t373.length co19, .int .i64 t376, .int .i64 t377, .int .i64 t378, .int .i64 t379] 46 (0, 0)) (by (with_reducible repeat (first | refine blk_drewN ?_ _ | refine blk_drew ?_ | refine blk_alloc ?_ _)); exact BK380.out) hb)
                have n9_ := Aside0.mk (blk_below (g := gb394) (o := .cells #[.int .i64 t386, .slice Ao32 t387.length co32] 51 (0, 0)) (by (with_reducible repeat (first | refine blk_drewN ?_ _ | refine blk_drew ?_ | refine blk_alloc ?_ _)); exact BK394.out) hb)
                have n10_ := Aside0.mk (blk_below (g := gb395) (o := .cells #[.int .i64 t390, .slice Ao36 t391.length co36] 51 (0, 0)) (by (with_reducible repeat (first | refine blk_drewN ?_ _ | refine blk_drew ?_ | refine blk_alloc ?_ _)); exact BK395.out) hb)
                have n11_ := Aside0.mk (below_step (by repeat (first | (with_reducible first | exact HB.out | apply below_alloc | apply pw_below_drewN | apply below_drew1 | refine below_set ?_ GE372.out | refine below_set ?_ GE380.out | refine below_set ?_ GE394.out | refine below_set ?_ GE395.out) | exact HB.out)) hb)
                clear HO366
                clear HO370
                clear HO375
                clear HO385
                clear HO389
                clear HO393
                clear HO398
                clear BK372
                clear BK380
                clear BK394
                clear BK395
                clear HB
                have HO366 := n0_
                have HO370 := n1_
                have HO375 := n2_
                have HO385 := n3_
                have HO389 := n4_
                have HO393 := n5_
                have HO398 := n6_
                have BK372 := n7_
                have BK380 := n8_
                have BK394 := n9_
                have BK395 := n10_
                have HB := n11_
                clear n0_ n1_ n2_ n3_ n4_ n5_ n6_ n7_ n8_ n9_ n10_ n11_
                (try clear hb)
                (try clear hb2)
                (try clear hk)
                (try clear hi)
                refine hK.out _ _ ⟨(blk_cell BK380.out 0).trans rfl, (blk_cell BK380.out 1).trans rfl, (blk_cell BK380.out 2).trans rfl, (blk_cell BK380.out 3).trans rfl, (blk_cell BK380.out 4).trans rfl, (blk_cell BK372.out 0).trans rfl, (blk_cell BK372.out 1).trans rfl, (blk_cell BK394.out 0).trans rfl, (blk_cell BK394.out 1).trans rfl, (blk_cell BK395.out 0).trans rfl, (blk_cell BK395.out 1).trans rfl⟩ (fun hHeld => ?_)
                clear hK K
                refine norm_ (a' := ?_) ?_ ?_
                rotate_left
                · show Act.put _ (some 55) _ = _
                  simp only [Act.put, List.setIfInBounds_toArray, List.set_cons_zero, List.set_cons_succ, i64_w, i32_w]
                  rfl
                refine pure_ (i := 6) (N := some 56) (v := ?_) (a' := ?_) #[true, true, true, true, true, true, true, false, false, false, false, false, false, false, false, false, false, false, false, false, false, false, false, false, false, false, false, false, false] rfl rfl (any_of HT_.out (by kernel_rfl)) (fun _ _ _ h => h) (Or.inl ⟨by rfl, ?_⟩) ?_ ?_
                rotate_left
                · intro w'
                  go_simp
                  with_reducible rfl
                rotate_left
                · simp only [Act.put, List.setIfInBounds_toArray, List.set_cons_zero, List.set_cons_succ, i64_w, i32_w]
                  rfl
                refine pure_ (i := 7) (N := some 57) (v := ?_) (a' := ?_) #[true, true, true, true, true, true, true, true, false, false, false, false, false, false, false, false, false, false, false, false, false, false, false, false, false, false, false, false, false] rfl rfl (any_of HT_.out (by kernel_rfl)) (fun _ _ _ h => h) (Or.inl ⟨by rfl, ?_⟩) ?_ ?_
                rotate_left
                · intro w'
                  go_simp
                  with_reducible rfl
                rotate_left
                · simp only [Act.put, List.setIfInBounds_toArray, List.set_cons_zero, List.set_cons_succ, i64_w, i32_w]
                  rfl
                refine pure_ (i := 8) (N := some 58) (v := ?_) (a' := ?_) #[true, true, true, true, true, true, true, true, true, false, false, false, false, false, false, false, false, false, false, false, false, false, false, false, false, false, false, false, false] rfl rfl (any_of HT_.out (by kernel_rfl)) (fun _ _ _ h => h) (Or.inl ⟨by rfl, ?_⟩) ?_ ?_
                rotate_left
                · intro w'
                  go_simp
                  with_reducible rfl
                rotate_left
                · simp only [Act.put, List.setIfInBounds_toArray, List.set_cons_zero, List.set_cons_succ, i64_w, i32_w]
                  rfl
                refine pure_ (i := 10) (N := some 60) (v := ?_) (a' := ?_) #[true, true, true, true, true, true, true, true, true, false, true, false, false, false, false, false, false, false, false, false, false, false, false, false, false, false, false, false, false] rfl rfl (any_of HT_.out (by kernel_rfl)) (fun _ _ _ h => h) (Or.inl ⟨by rfl, ?_⟩) ?_ ?_
                rotate_left
                · intro w'
                  go_simp
                  with_reducible rfl
                rotate_left
                · simp only [Act.put, List.setIfInBounds_toArray, List.set_cons_zero, List.set_cons_succ, i64_w, i32_w]
                  rfl
                refine take_ (i := 9) (N := some 59) (v := ?_) (a' := ?_) #[true, true, true, true, true, true, true, true, true, true, true, false, false, false, false, false, false, false, false, false, false, false, false, false, false, false, false, false, false] rfl rfl (take_ofW HT_.out HW_.out (by kernel_rfl)) (fun _ _ _ h => h) (Or.inl ⟨by rfl, ?_⟩) hHeld ?_ ?_
                rotate_left
                · rintro w' ⟨s0, s1, s2, s3, s4, s5, s6, s7, s8, s9, s10⟩
                  go_simp
                  with_reducible rfl
                rotate_left
                · simp only [Act.put, List.setIfInBounds_toArray, List.set_cons_zero, List.set_cons_succ, i64_w, i32_w]
                  rfl
                refine take_ (i := 11) (N := some 61) (v := ?_) (a' := ?_) #[true, true, true, true, true, true, true, true, true, true, true, true, false, false, false, false, false, false, false, false, false, false, false, false, false, false, false, false, false] rfl rfl (take_ofW HT_.out HW_.out (by kernel_rfl)) (fun _ _ _ h => h) (Or.inl ⟨by rfl, ?_⟩) hHeld ?_ ?_
                rotate_left
                · rintro w' ⟨s0, s1, s2, s3, s4, s5, s6, s7, s8, s9, s10⟩
                  go_simp
                  with_reducible rfl
                rotate_left
                · simp only [Act.put, List.setIfInBounds_toArray, List.set_cons_zero, List.set_cons_succ, i64_w, i32_w]
                  rfl
                refine pure_ (i := 12) (N := some 62) (v := ?_) (a' := ?_) #[true, true, true, true, true, true, true, true, true, true, true, true, true, false, false, false, false, false, false, false, false, false, false, false, false, false, false, false, false] rfl rfl (any_of HT_.out (by kernel_rfl)) (fun _ _ _ h => h) (Or.inl ⟨by rfl, ?_⟩) ?_ ?_
                rotate_left
                · intro w'
                  go_simp
                  with_reducible rfl
                rotate_left
                · simp only [Act.put, List.setIfInBounds_toArray, List.set_cons_zero, List.set_cons_succ, i64_w, i32_w]
                  rfl
                refine pure_ (i := 13) (N := some 63) (v := ?_) (a' := ?_) #[true, true, true, true, true, true, true, true, true, true, true, true, true, true, false, false, false, false, false, false, false, false, false, false, false, false, false, false, false] rfl rfl (any_of HT_.out (by kernel_rfl)) (fun _ _ _ h => h) (Or.inl ⟨by rfl, ?_⟩) ?_ ?_
                rotate_left
                · intro w'
                  go_simp
                  with_reducible rfl
                rotate_left
                · simp only [Act.put, List.setIfInBounds_toArray, List.set_cons_zero, List.set_cons_succ, i64_w, i32_w]
                  rfl
                refine pure_ (i := 14) (N := some 64) (v := ?_) (a' := ?_) #[true, true, true, true, true, true, true, true, true, true, true, true, true, true, true, false, false, false, false, false, false, false, false, false, false, false, false, false, false] rfl rfl (any_of HT_.out (by kernel_rfl)) (fun _ _ _ h => h) (Or.inl ⟨by rfl, ?_⟩) ?_ ?_
                rotate_left
                · intro w'
                  go_simp
                  with_reducible rfl
                rotate_left
                · simp only [Act.put, List.setIfInBounds_toArray, List.set_cons_zero, List.set_cons_succ, i64_w, i32_w]
                  rfl
                refine pure_ (i := 15) (N := some 65) (v := ?_) (a' := ?_) #[true, true, true, true, true, true, true, true, true, true, true, true, true, true, true, true, false, false, false, false, false, false, false, false, false, false, false, false, false] rfl rfl (any_of HT_.out (by kernel_rfl)) (fun _ _ _ h => h) (Or.inl ⟨by rfl, ?_⟩) ?_ ?_
                rotate_left
                · intro w'
                  go_simp
                  with_reducible rfl
                rotate_left
                · simp only [Act.put, List.setIfInBounds_toArray, List.set_cons_zero, List.set_cons_succ, i64_w, i32_w]
                  rfl
                refine pure_ (i := 17) (N := some 67) (v := ?_) (a' := ?_) #[true, true, true, true, true, true, true, true, true, true, true, true, true, true, true, true, false, true, false, false, false, false, false, false, false, false, false, false, false] rfl rfl (any_of HT_.out (by kernel_rfl)) (fun _ _ _ h => h) (Or.inl ⟨by rfl, ?_⟩) ?_ ?_
                rotate_left
                · intro w'
                  go_simp
                  with_reducible rfl
                rotate_left
                · simp only [Act.put, List.setIfInBounds_toArray, List.set_cons_zero, List.set_cons_succ, i64_w, i32_w]
                  rfl
                refine take_ (i := 16) (N := some 66) (v := ?_) (a' := ?_) #[true, true, true, true, true, true, true, true, true, true, true, true, true, true, true, true, true, true, false, false, false, false, false, false, false, false, false, false, false] rfl rfl (take_ofW HT_.out HW_.out (by kernel_rfl)) (fun _ _ _ h => h) (Or.inl ⟨by rfl, ?_⟩) hHeld ?_ ?_
                rotate_left
                · rintro w' ⟨s0, s1, s2, s3, s4, s5, s6, s7, s8, s9, s10⟩
                  go_simp
                  with_reducible rfl
                rotate_left
                · simp only [Act.put, List.setIfInBounds_toArray, List.set_cons_zero, List.set_cons_succ, i64_w, i32_w]
                  rfl
                refine take_ (i := 18) (N := some 68) (v := ?_) (a' := ?_) #[true, true, true, true, true, true, true, true, true, true, true, true, true, true, true, true, true, true, true, false, false, false, false, false, false, false, false, false, false] rfl rfl (take_ofW HT_.out HW_.out (by kernel_rfl)) (fun _ _ _ h => h) (Or.inl ⟨by rfl, ?_⟩) hHeld ?_ ?_
                rotate_left
                · rintro w' ⟨s0, s1, s2, s3, s4, s5, s6, s7, s8, s9, s10⟩
                  go_simp
                  with_reducible rfl
                rotate_left
                · simp only [Act.put, List.setIfInBounds_toArray, List.set_cons_zero, List.set_cons_succ, i64_w, i32_w]
                  rfl
                refine one_ (i := 19) (N := some 69) #[true, true, true, true, true, true, true, true, true, true, true, true, true, true, true, true, true, true, true, true, false, false, false, false, false, false, false, false, false] rfl rfl (one_of HT_.out (by kernel_rfl)) (by decide) (fun K hK => ?_)
                refine goes_ Try.func31 (by kernel_rfl) rfl #[.slice Ao32 t387.length co32, .slice Ao36 t391.length co36] (by rfl) rfl rfl (by (try simp only [List.map_toArray, List.map_cons, List.map_nil]); first | done | rfl | (simp only [List.length_drop, List.length_take]; rfl)) ?_
                with_reducible refine (laws_lwNums.calls kj2 _ _ t387 _ _ t391 true _ ?side1 ?side2 ?side3 ?side4 A41.out).mono ?_
                (case side1 => repeat (first | exact (Kd.R_reads' HO389.out).2.2 | (with_reducible refine Kd.C_alloc ?_ _) | (with_reducible refine Kd.C_drewN ?_ _) | (with_reducible refine Kd.C_drew ?_)))
                (case side2 => exact (Kd.R_reads' HO389.out).2.1)
                (case side3 => repeat (first | exact (Kd.R_reads' HO393.out).2.2 | (with_reducible refine Kd.C_alloc ?_ _) | (with_reducible refine Kd.C_drewN ?_ _) | (with_reducible refine Kd.C_drew ?_)))
                (case side4 => exact (Kd.R_reads' HO393.out).2.1)
                rintro e w' ⟨rfl, ⟨nd, rfl⟩⟩
                refine ⟨_, rfl, ?_⟩
                refine hK.out _ _ ⟨(blk_cell BK380.out 0).trans rfl, (blk_cell BK380.out 1).trans rfl, (blk_cell BK380.out 2).trans rfl, (blk_cell BK380.out 3).trans rfl, (blk_cell BK380.out 4).trans rfl, (blk_cell BK372.out 0).trans rfl, (blk_cell BK372.out 1).trans rfl, (blk_cell BK394.out 0).trans rfl, (blk_cell BK394.out 1).trans rfl, (blk_cell BK395.out 0).trans rfl, (blk_cell BK395.out 1).trans rfl⟩ (fun hHeld => ?_)
                clear hK K
                refine norm_ (a' := ?_) ?_ ?_
                rotate_left
                · show Act.put _ (some 69) _ = _
                  simp only [Act.put, List.setIfInBounds_toArray, List.set_cons_zero, List.set_cons_succ, i64_w, i32_w]
                  rfl
                refine pure_ (i := 20) (N := some 70) (v := ?_) (a' := ?_) #[true, true, true, true, true, true, true, true, true, true, true, true, true, true, true, true, true, true, true, true, true, false, false, false, false, false, false, false, false] rfl rfl (any_of HT_.out (by kernel_rfl)) (fun _ _ _ h => h) (Or.inl ⟨by rfl, ?_⟩) ?_ ?_
                rotate_left
                · intro w'
                  go_simp
                  with_reducible rfl
                rotate_left
                · simp only [Act.put, List.setIfInBounds_toArray, List.set_cons_zero, List.set_cons_succ, i64_w, i32_w]
                  rfl
                refine pure_ (i := 21) (N := some 71) (v := ?_) (a' := ?_) #[true, true, true, true, true, true, true, true, true, true, true, true, true, true, true, true, true, true, true, true, true, true, false, false, false, false, false, false, false] rfl rfl (any_of HT_.out (by kernel_rfl)) (fun _ _ _ h => h) (Or.inl ⟨by rfl, ?_⟩) ?_ ?_
                rotate_left
                · intro w'
                  go_simp
                  with_reducible rfl
                rotate_left
                · simp only [Act.put, List.setIfInBounds_toArray, List.set_cons_zero, List.set_cons_succ, i64_w, i32_w]
                  rfl
                refine pure_ (i := 22) (N := some 72) (v := ?_) (a' := ?_) #[true, true, true, true, true, true, true, true, true, true, true, true, true, true, true, true, true, true, true, true, true, true, true, false, false, false, false, false, false] rfl rfl (any_of HT_.out (by kernel_rfl)) (fun _ _ _ h => h) (Or.inl ⟨by rfl, ?_⟩) ?_ ?_
                rotate_left
                · intro w'
                  go_simp
                  with_reducible rfl
                rotate_left
                · simp only [Act.put, List.setIfInBounds_toArray, List.set_cons_zero, List.set_cons_succ, i64_w, i32_w]
                  rfl
                refine take_ (i := 23) (N := some 73) (v := ?_) (a' := ?_) #[true, true, true, true, true, true, true, true, true, true, true, true, true, true, true, true, true, true, true, true, true, true, true, true, false, false, false, false, false] rfl rfl (take_ofW HT_.out HW_.out (by kernel_rfl)) (fun _ _ _ h => h) (Or.inl ⟨by rfl, ?_⟩) hHeld ?_ ?_
                rotate_left
                · rintro w' ⟨s0, s1, s2, s3, s4, s5, s6, s7, s8, s9, s10⟩
                  go_simp
                  with_reducible rfl
                rotate_left
                · simp only [Act.put, List.setIfInBounds_toArray, List.set_cons_zero, List.set_cons_succ, i64_w, i32_w]
                  rfl
                refine take_ (i := 25) (N := some 75) (v := ?_) (a' := ?_) #[true, true, true, true, true, true, true, true, true, true, true, true, true, true, true, true, true, true, true, true, true, true, true, true, false, true, false, false, false] rfl rfl (take_ofW HT_.out HW_.out (by kernel_rfl)) (fun _ _ _ h => h) (Or.inl ⟨by rfl, ?_⟩) hHeld ?_ ?_
                rotate_left
                · rintro w' ⟨s0, s1, s2, s3, s4, s5, s6, s7, s8, s9, s10⟩
                  go_simp
                  with_reducible rfl
                rotate_left
                · simp only [Act.put, List.setIfInBounds_toArray, List.set_cons_zero, List.set_cons_succ, i64_w, i32_w]
                  rfl
                refine one_ (i := 24) (N := some 74) #[true, true, true, true, true, true, true, true, true, true, true, true, true, true, true, true, true, true, true, true, true, true, true, true, true, true, false, false, false] rfl rfl (one_of HT_.out (by kernel_rfl)) (by decide) (fun K hK => ?_)
                refine goes_ Try.func32 (by kernel_rfl) rfl #[.agg #[.slice Ao14 t364.length co14, .int .i64 t367]] (by rfl) rfl rfl (by (try simp only [List.map_toArray, List.map_cons, List.map_nil]); first | done | rfl | (simp only [List.length_drop, List.length_take]; rfl)) ?_
                with_reducible refine (impl_TurnRight.calls kj2 _ _ t364 t367 t405 _ ?side1 ?side2 A43.out).mono ?_
                (case side1 => repeat (first | exact (Kd.R_reads' HO366.out).2.2 | (with_reducible refine Kd.C_alloc ?_ _) | (with_reducible refine Kd.C_drewN ?_ _) | (with_reducible refine Kd.C_drew ?_)))
                (case side2 => exact (Kd.R_reads' HO366.out).2.1)
                rintro e w50 ⟨rfl, hb⟩
                refine ⟨_, rfl, ?_⟩
                have n0_ := Aside0.mk (Kd.R_below (by (with_reducible repeat (first | apply Kd.R_alloc | apply Kd.R_drewN | apply Kd.R_drew)); exact HO366.out) hb)
                have n1_ := Aside0.mk (Kd.R_below (by (with_reducible repeat (first | apply Kd.R_alloc | apply Kd.R_drewN | apply Kd.R_drew)); exact HO370.out) hb)
                have n2_ := Aside0.mk (Kd.R_below (by (with_reducible repeat (first | apply Kd.R_alloc | apply Kd.R_drewN | apply Kd.R_drew)); exact HO375.out) hb)
                have n3_ := Aside0.mk (Kd.R_below (by (with_reducible repeat (first | apply Kd.R_alloc | apply Kd.R_drewN | apply Kd.R_drew)); exact HO385.out) hb)
                have n4_ := Aside0.mk (Kd.R_below (by (with_reducible repeat (first | apply Kd.R_alloc | apply Kd.R_drewN | apply Kd.R_drew)); exact HO389.out) hb)
                have n5_ := Aside0.mk (Kd.R_below (by (with_reducible repeat (first | apply Kd.R_alloc | apply Kd.R_drewN | apply Kd.R_drew)); exact HO393.out) hb)
                have n6_ := Aside0.mk (Kd.R_below (by (with_reducible repeat (first | apply Kd.R_alloc | apply Kd.R_drewN | apply Kd.R_drew)); exact HO398.out) hb)
                have n7_ := Aside0.mk (blk_below (g := gb372) (o := .cells #[.slice Ao14 t364.length co14, .int .i64 t367] 42 (0, 0)) (by (with_reducible repeat (first | refine blk_drewN ?_ _ | refine blk_drew ?_ | refine blk_alloc ?_ _)); exact BK372.out) hb)
                have n8_ := Aside0.mk (blk_below (g := gb380) (o := .cells #[.slice Ao19 t373.length co19, .int .i64 t376, .int .i64 t377, .int .i64 t378, .int .i64 t379] 46 (0, 0)) (by (with_reducible repeat (first | refine blk_drewN ?_ _ | refine blk_drew ?_ | refine blk_alloc ?_ _)); exact BK380.out) hb)
                have n9_ := Aside0.mk (blk_below (g := gb394) (o := .cells #[.int .i64 t386, .slice Ao32 t387.length co32] 51 (0, 0)) (by (with_reducible repeat (first | refine blk_drewN ?_ _ | refine blk_drew ?_ | refine blk_alloc ?_ _)); exact BK394.out) hb)
                have n10_ := Aside0.mk (blk_below (g := gb395) (o := .cells #[.int .i64 t390, .slice Ao36 t391.length co36] 51 (0, 0)) (by (with_reducible repeat (first | refine blk_drewN ?_ _ | refine blk_drew ?_ | refine blk_alloc ?_ _)); exact BK395.out) hb)
                have n11_ := Aside0.mk (below_step (by repeat (first | (with_reducible first | exact HB.out | apply below_alloc | apply pw_below_drewN | apply below_drew1 | refine below_set ?_ GE372.out | refine below_set ?_ GE380.out | refine below_set ?_ GE394.out | refine below_set ?_ GE395.out) | exact HB.out)) hb)
                clear HO366
                clear HO370
                clear HO375
                clear HO385
                clear HO389
                clear HO393
                clear HO398
                clear BK372
                clear BK380
                clear BK394
                clear BK395
                clear HB
                have HO366 := n0_
                have HO370 := n1_
                have HO375 := n2_
                have HO385 := n3_
                have HO389 := n4_
                have HO393 := n5_
                have HO398 := n6_
                have BK372 := n7_
                have BK380 := n8_
                have BK394 := n9_
                have BK395 := n10_
                have HB := n11_
                clear n0_ n1_ n2_ n3_ n4_ n5_ n6_ n7_ n8_ n9_ n10_ n11_
                (try clear hb)
                (try clear hb2)
                (try clear hk)
                (try clear hi)
                refine hK.out _ _ ⟨(blk_cell BK380.out 0).trans rfl, (blk_cell BK380.out 1).trans rfl, (blk_cell BK380.out 2).trans rfl, (blk_cell BK380.out 3).trans rfl, (blk_cell BK380.out 4).trans rfl, (blk_cell BK372.out 0).trans rfl, (blk_cell BK372.out 1).trans rfl, (blk_cell BK394.out 0).trans rfl, (blk_cell BK394.out 1).trans rfl, (blk_cell BK395.out 0).trans rfl, (blk_cell BK395.out 1).trans rfl⟩ (fun hHeld => ?_)
                clear hK K
                refine norm_ (a' := ?_) ?_ ?_
                rotate_left
                · show Act.put _ (some 74) _ = _
                  simp only [Act.put, List.setIfInBounds_toArray, List.set_cons_zero, List.set_cons_succ, i64_w, i32_w]
                  rfl
                refine one_ (i := 26) (N := some 76) #[true, true, true, true, true, true, true, true, true, true, true, true, true, true, true, true, true, true, true, true, true, true, true, true, true, true, true, false, false] rfl rfl (one_of HT_.out (by kernel_rfl)) (by decide) (fun K hK => ?_)
                refine goes_ Try.func33 (by kernel_rfl) rfl #[.agg #[.slice Ao14 t364.length co14, .int .i64 t367]] (by rfl) rfl rfl (by (try simp only [List.map_toArray, List.map_cons, List.map_nil]); first | done | rfl | (simp only [List.length_drop, List.length_take]; rfl)) ?_
                with_reducible refine (spec_TurnRight.calls kj2 _ _ t364 t367 t406 _ ?side1 ?side2 A44.out).mono ?_
                (case side1 => repeat (first | exact (Kd.R_reads' HO366.out).2.2 | (with_reducible refine Kd.C_alloc ?_ _) | (with_reducible refine Kd.C_drewN ?_ _) | (with_reducible refine Kd.C_drew ?_)))
                (case side2 => exact (Kd.R_reads' HO366.out).2.1)
                rintro e w51 ⟨rfl, hb⟩
                refine ⟨_, rfl, ?_⟩
                have n0_ := Aside0.mk (Kd.R_below (by (with_reducible repeat (first | apply Kd.R_alloc | apply Kd.R_drewN | apply Kd.R_drew)); exact HO366.out) hb)
                have n1_ := Aside0.mk (Kd.R_below (by (with_reducible repeat (first | apply Kd.R_alloc | apply Kd.R_drewN | apply Kd.R_drew)); exact HO370.out) hb)
                have n2_ := Aside0.mk (Kd.R_below (by (with_reducible repeat (first | apply Kd.R_alloc | apply Kd.R_drewN | apply Kd.R_drew)); exact HO375.out) hb)
                have n3_ := Aside0.mk (Kd.R_below (by (with_reducible repeat (first | apply Kd.R_alloc | apply Kd.R_drewN | apply Kd.R_drew)); exact HO385.out) hb)
                have n4_ := Aside0.mk (Kd.R_below (by (with_reducible repeat (first | apply Kd.R_alloc | apply Kd.R_drewN | apply Kd.R_drew)); exact HO389.out) hb)
                have n5_ := Aside0.mk (Kd.R_below (by (with_reducible repeat (first | apply Kd.R_alloc | apply Kd.R_drewN | apply Kd.R_drew)); exact HO393.out) hb)
                have n6_ := Aside0.mk (Kd.R_below (by (with_reducible repeat (first | apply Kd.R_alloc | apply Kd.R_drewN | apply Kd.R_drew)); exact HO398.out) hb)
                have n7_ := Aside0.mk (blk_below (g := gb372) (o := .cells #[.slice Ao14 t364.length co14, .int .i64 t367] 42 (0, 0)) (by (with_reducible repeat (first | refine blk_drewN ?_ _ | refine blk_drew ?_ | refine blk_alloc ?_ _)); exact BK372.out) hb)
                have n8_ := Aside0.mk (blk_below (g := gb380) (o := .cells #[.slice Ao19 t373.length co19, .int .i64 t376, .int .i64 t377, .int .i64 t378, .int .i64 t379] 46 (0, 0)) (by (with_reducible repeat (first | refine blk_drewN ?_ _ | refine blk_drew ?_ | refine blk_alloc ?_ _)); exact BK380.out) hb)
                have n9_ := Aside0.mk (blk_below (g := gb394) (o := .cells #[.int .i64 t386, .slice Ao32 t387.length co32] 51 (0, 0)) (by (with_reducible repeat (first | refine blk_drewN ?_ _ | refine blk_drew ?_ | refine blk_alloc ?_ _)); exact BK394.out) hb)
                have n10_ := Aside0.mk (blk_below (g := gb395) (o := .cells #[.int .i64 t390, .slice Ao36 t391.length co36] 51 (0, 0)) (by (with_reducible repeat (first | refine blk_drewN ?_ _ | refine blk_drew ?_ | refine blk_alloc ?_ _)); exact BK395.out) hb)
                have n11_ := Aside0.mk (below_step (by repeat (first | (with_reducible first | exact HB.out | apply below_alloc | apply pw_below_drewN | apply below_drew1 | refine below_set ?_ GE372.out | refine below_set ?_ GE380.out | refine below_set ?_ GE394.out | refine below_set ?_ GE395.out) | exact HB.out)) hb)
                clear HO366
                clear HO370
                clear HO375
                clear HO385
                clear HO389
                clear HO393
                clear HO398
                clear BK372
                clear BK380
                clear BK394
                clear BK395
                clear HB
                have HO366 := n0_
                have HO370 := n1_
                have HO375 := n2_
                have HO385 := n3_
                have HO389 := n4_
                have HO393 := n5_
                have HO398 := n6_
                have BK372 := n7_
                have BK380 := n8_
                have BK394 := n9_
                have BK395 := n10_
                have HB := n11_
                clear n0_ n1_ n2_ n3_ n4_ n5_ n6_ n7_ n8_ n9_ n10_ n11_
                (try clear hb)
                (try clear hb2)
                (try clear hk)
                (try clear hi)
                refine hK.out _ _ ⟨(blk_cell BK380.out 0).trans rfl, (blk_cell BK380.out 1).trans rfl, (blk_cell BK380.out 2).trans rfl, (blk_cell BK380.out 3).trans rfl, (blk_cell BK380.out 4).trans rfl, (blk_cell BK372.out 0).trans rfl, (blk_cell BK372.out 1).trans rfl, (blk_cell BK394.out 0).trans rfl, (blk_cell BK394.out 1).trans rfl, (blk_cell BK395.out 0).trans rfl, (blk_cell BK395.out 1).trans rfl⟩ (fun hHeld => ?_)
                clear hK K
                refine norm_ (a' := ?_) ?_ ?_
                rotate_left
                · show Act.put _ (some 76) _ = _
                  simp only [Act.put, List.setIfInBounds_toArray, List.set_cons_zero, List.set_cons_succ, i64_w, i32_w]
                  rfl
                refine pure_ (i := 27) (N := some 77) (v := ?_) (a' := ?_) #[true, true, true, true, true, true, true, true, true, true, true, true, true, true, true, true, true, true, true, true, true, true, true, true, true, true, true, true, false] rfl rfl (any_of HT_.out (by kernel_rfl)) (fun _ _ _ h => h) (Or.inl ⟨by rfl, ?_⟩) ?_ ?_
                rotate_left
                · intro w'
                  go_simp
                  with_reducible rfl
                rotate_left
                · simp only [Act.put, List.setIfInBounds_toArray, List.set_cons_zero, List.set_cons_succ, i64_w, i32_w]
                  rfl
                refine pure_ (i := 28) (N := some 78) (v := ?_) (a' := ?_) #[true, true, true, true, true, true, true, true, true, true, true, true, true, true, true, true, true, true, true, true, true, true, true, true, true, true, true, true, true] rfl rfl (any_of HT_.out (by kernel_rfl)) (fun _ _ _ h => h) (Or.inl ⟨by rfl, ?_⟩) ?_ ?_
                rotate_left
                · intro w'
                  go_simp
                  with_reducible rfl
                rotate_left
                · simp only [Act.put, List.setIfInBounds_toArray, List.set_cons_zero, List.set_cons_succ, i64_w, i32_w]
                  rfl
                refine done_ (done_of HT_.out (by kernel_rfl)) ?_
                try go_wp2
                go_meet
                case rel => exact ⟨_, ((t405 != t406)), (by first | rfl | (simp; done) | (simp [*]; done)), H', ⟨by have := HJ2.out; first | omega | exact Nat.le_refl _⟩, ⟨by (with_reducible repeat (first | apply Kd.R_alloc | apply Kd.R_drewN | apply Kd.R_drew)); exact Kd.R_mono HO370.out (fun _ hk => ⟨hk.1.2.2.1, ⟨hk.1.1, ⟨hk.1.2.1, ⟨hk.1.2.2.2.1, hk.1.2.2.2.2⟩⟩⟩⟩)⟩, ⟨by (with_reducible repeat (first | apply Kd.R_alloc | apply Kd.R_drewN | apply Kd.R_drew)); exact Kd.R_mono HO385.out (fun _ hk => ⟨hk.1.2.1, ⟨hk.1.1, ⟨hk.1.2.2.1, ⟨hk.1.2.2.2.1, hk.1.2.2.2.2⟩⟩⟩⟩)⟩, ⟨by (with_reducible repeat (first | apply Kd.R_alloc | apply Kd.R_drewN | apply Kd.R_drew)); exact Kd.R_mono HO366.out (fun _ hk => ⟨hk.1.1, ⟨hk.1.2.2.1, ⟨hk.1.2.1, ⟨hk.1.2.2.2.1, hk.1.2.2.2.2⟩⟩⟩⟩)⟩, ⟨by (with_reducible repeat (first | apply Kd.R_alloc | apply Kd.R_drewN | apply Kd.R_drew)); exact Kd.R_mono HO375.out (fun _ hk => ⟨hk.1.2.1, ⟨hk.1.2.2.1, ⟨hk.1.1, ⟨hk.1.2.2.2.1, hk.1.2.2.2.2⟩⟩⟩⟩)⟩, ⟨by (with_reducible repeat (first | apply Kd.R_alloc | apply Kd.R_drewN | apply Kd.R_drew)); exact Kd.R_mono HO389.out (fun _ hk => ⟨hk.1.2.1, ⟨hk.1.2.2.2.1, ⟨hk.1.1, ⟨hk.1.2.2.1, hk.1.2.2.2.2⟩⟩⟩⟩)⟩, ⟨by (with_reducible repeat (first | apply Kd.R_alloc | apply Kd.R_drewN | apply Kd.R_drew)); exact Kd.R_mono HO393.out (fun _ hk => ⟨hk.1.2.1, ⟨hk.1.2.2.2.1, ⟨hk.1.1, ⟨hk.1.2.2.1, hk.1.2.2.2.2⟩⟩⟩⟩)⟩, ⟨by (with_reducible repeat (first | refine blk_drewN ?_ _ | refine blk_drew ?_ | refine blk_alloc ?_ _)); exact BK372.out⟩, ⟨by (with_reducible repeat (first | refine blk_drewN ?_ _ | refine blk_drew ?_ | refine blk_alloc ?_ _)); exact BK380.out⟩, ⟨by (with_reducible repeat (first | refine blk_drewN ?_ _ | refine blk_drew ?_ | refine blk_alloc ?_ _)); exact BK394.out⟩, ⟨by (with_reducible repeat (first | refine blk_drewN ?_ _ | refine blk_drew ?_ | refine blk_alloc ?_ _)); exact BK395.out⟩, ⟨by repeat (first | (with_reducible first | exact HB.out | apply below_alloc | apply pw_below_drewN | apply below_drew1 | refine below_set ?_ GE372.out | refine below_set ?_ GE380.out | refine below_set ?_ GE394.out | refine below_set ?_ GE395.out) | exact HB.out)⟩⟩
              · replace c42 := Bool.eq_false_iff.mpr c42
                subst c42
                have H1 : (laws_FnTurn.j1 kj2 t368 t381 true t373 t376 t377 t378 t379 t386 t387) = some r := by rw [if_neg (show ¬ (false = true) by decide)] at H; exact H
                clear H
                have H := H1
                clear H1
                exact absurd (H.trans (congrArg some HT_.out)) (laws_FnTurn.j1_no _ _ _ _ _ _ _ _ _ _)
            · rw [if_neg c40] at H
              have c40b0 : (t386 == t390) = false := beq_eq_false_iff_ne.mpr c40
              have c40b1 : (t386 != t390) = true := bne_iff_ne.mpr c40
              (first | rw [c40b0] | (simp only [i64_w, i32_w]; rw [c40b0]) | skip)
              exact absurd (H.trans (congrArg some HT_.out)) (laws_FnTurn.j1_no _ _ _ _ _ _ _ _ _ _)
          · replace c39 := Bool.eq_false_iff.mpr c39
            subst c39
            have H1 : (laws_FnTurn.j1 kj2 t368 t381 true t373 t376 t377 t378 t379 t386 t387) = some r := by rw [if_neg (show ¬ (false = true) by decide)] at H; exact H
            clear H
            have H := H1
            clear H1
            exact absurd (H.trans (congrArg some HT_.out)) (laws_FnTurn.j1_no _ _ _ _ _ _ _ _ _ _)
        case rest =>
          as_aux_lemma =>
          clear HC11
          try clear c2
          try clear p2
          try clear c3
          try clear c29
          try clear c30
          try clear c39
          obtain ⟨kq, x78_10, rfl, HA, HJ10, HO_6, HO_9, HO_373000, HO_381000, HO_395001, HO_396001, BK372, BK380, BK394, BK395, HB⟩ := hcut
          cases kq with
          | zero => exact absurd HA.out (by simp [laws_FnTurn.j1])
          | succ kj10 =>
            have H := HA.out
            clear HA
            simp only [laws_FnTurn.j1] at H
            by_cases c67 : x78_10 = true
            · subst c67
              have H1 : (some false) = some r := by rw [if_pos rfl] at H; exact H
              clear H
              have H := H1
              clear H1
              exact absurd ((Option.some.inj H).trans HT_.out) (by decide)
            · replace c67 := Bool.eq_false_iff.mpr c67
              subst c67
              have H1 : (laws_FnTurn.l0 kj10 t368 t381 0 t373 t376 t377 t378 t379 t386 t387) = some r := by rw [if_neg (show ¬ (false = true) by decide)] at H; exact H
              clear H
              have H := H1
              clear H1
              have H' := Aside0.mk H
              clear H
              go_wp2
              go_loopg [14] kj10 (fun kq v14 w' => ∃ (x14_3 : Int), v14 = .int .i64 x14_3 ∧ Aside0 (laws_FnTurn.l0 kq t368 t381 x14_3 t373 t376 t377 t378 t379 t386 t387 = some r) ∧ Aside0 (kq ≤ kj10) ∧ Aside0 (Kd.R (Kd.int .i64) 2 w' w.heap.size (fun k_ => some k_ ≠ ((.slice Ao23 t381.length co23) : Value).ownBlock ∧ some k_ ≠ ((.slice Ao14 t364.length co14) : Value).ownBlock ∧ some k_ ≠ ((.slice Ao19 t373.length co19) : Value).ownBlock ∧ some k_ ≠ ((.slice Ao32 t387.length co32) : Value).ownBlock ∧ some k_ ≠ ((.slice Ao36 t391.length co36) : Value).ownBlock) (.slice Ao16 t368.length co16) t368) ∧ Aside0 (Kd.R (Kd.int .i64) 2 w' w.heap.size (fun k_ => some k_ ≠ ((.slice Ao16 t368.length co16) : Value).ownBlock ∧ some k_ ≠ ((.slice Ao14 t364.length co14) : Value).ownBlock ∧ some k_ ≠ ((.slice Ao19 t373.length co19) : Value).ownBlock ∧ some k_ ≠ ((.slice Ao32 t387.length co32) : Value).ownBlock ∧ some k_ ≠ ((.slice Ao36 t391.length co36) : Value).ownBlock) (.slice Ao23 t381.length co23) t381) ∧ Aside0 (Kd.R (Kd.int .i64) 2 w' w.heap.size (fun k_ => some k_ ≠ ((.slice Ao16 t368.length co16) : Value).ownBlock ∧ some k_ ≠ ((.slice Ao23 t381.length co23) : Value).ownBlock ∧ some k_ ≠ ((.slice Ao19 t373.length co19) : Value).ownBlock ∧ some k_ ≠ ((.slice Ao32 t387.length co32) : Value).ownBlock ∧ some k_ ≠ ((.slice Ao36 t391.length co36) : Value).ownBlock) (.slice Ao14 t364.length co14) t364) ∧ Aside0 (Kd.R (Kd.int .i64) 2 w' w.heap.size (fun k_ => some k_ ≠ ((.slice Ao16 t368.length co16) : Value).ownBlock ∧ some k_ ≠ ((.slice Ao23 t381.length co23) : Value).ownBlock ∧ some k_ ≠ ((.slice Ao14 t364.length co14) : Value).ownBlock ∧ some k_ ≠ ((.slice Ao32 t387.length co32) : Value).ownBlock ∧ some k_ ≠ ((.slice Ao36 t391.length co36) : Value).ownBlock) (.slice Ao19 t373.length co19) t373) ∧ Aside0 (Kd.R (Kd.int .i64) 2 w' w.heap.size (fun k_ => some k_ ≠ ((.slice Ao16 t368.length co16) : Value).ownBlock ∧ some k_ ≠ ((.slice Ao23 t381.length co23) : Value).ownBlock ∧ some k_ ≠ ((.slice Ao14 t364.length co14) : Value).ownBlock ∧ some k_ ≠ ((.slice Ao19 t373.length co19) : Value).ownBlock ∧ some k_ ≠ ((.slice Ao36 t391.length co36) : Value).ownBlock) (.slice Ao32 t387.length co32) t387) ∧ Aside0 (Kd.R (Kd.int .i64) 2 w' w.heap.size (fun k_ => some k_ ≠ ((.slice Ao16 t368.length co16) : Value).ownBlock ∧ some k_ ≠ ((.slice Ao23 t381.length co23) : Value).ownBlock ∧ some k_ ≠ ((.slice Ao14 t364.length co14) : Value).ownBlock ∧ some k_ ≠ ((.slice Ao19 t373.length co19) : Value).ownBlock ∧ some k_ ≠ ((.slice Ao32 t387.length co32) : Value).ownBlock) (.slice Ao36 t391.length co36) t391) ∧ Aside0 (w'.heap[gb372]? = some (.cells #[(.slice Ao14 t364.length co14), .int .i64 t367] 42 (0, 0))) ∧ Aside0 (w'.heap[gb380]? = some (.cells #[(.slice Ao19 t373.length co19), .int .i64 t376, .int .i64 t377, .int .i64 t378, .int .i64 t379] 46 (0, 0))) ∧ Aside0 (w'.heap[gb394]? = some (.cells #[.int .i64 t386, (.slice Ao32 t387.length co32)] 51 (0, 0))) ∧ Aside0 (w'.heap[gb395]? = some (.cells #[.int .i64 t390, (.slice Ao36 t391.length co36)] 51 (0, 0))) ∧ Aside0 (Below w.heap.size w w'))
              case atStart => exact ⟨(0), (by first | rfl | (simp; done) | (simp [*]; done)), H', ⟨Nat.le_refl _⟩, ⟨by (with_reducible repeat (first | apply Kd.R_alloc | apply Kd.R_drewN | apply Kd.R_drew)); exact HO_6.out⟩, ⟨by (with_reducible repeat (first | apply Kd.R_alloc | apply Kd.R_drewN | apply Kd.R_drew)); exact HO_9.out⟩, ⟨by (with_reducible repeat (first | apply Kd.R_alloc | apply Kd.R_drewN | apply Kd.R_drew)); exact HO_373000.out⟩, ⟨by (with_reducible repeat (first | apply Kd.R_alloc | apply Kd.R_drewN | apply Kd.R_drew)); exact HO_381000.out⟩, ⟨by (with_reducible repeat (first | apply Kd.R_alloc | apply Kd.R_drewN | apply Kd.R_drew)); exact HO_395001.out⟩, ⟨by (with_reducible repeat (first | apply Kd.R_alloc | apply Kd.R_drewN | apply Kd.R_drew)); exact HO_396001.out⟩, ⟨by (with_reducible repeat (first | refine blk_drewN ?_ _ | refine blk_drew ?_ | refine blk_alloc ?_ _)); exact BK372.out⟩, ⟨by (with_reducible repeat (first | refine blk_drewN ?_ _ | refine blk_drew ?_ | refine blk_alloc ?_ _)); exact BK380.out⟩, ⟨by (with_reducible repeat (first | refine blk_drewN ?_ _ | refine blk_drew ?_ | refine blk_alloc ?_ _)); exact BK394.out⟩, ⟨by (with_reducible repeat (first | refine blk_drewN ?_ _ | refine blk_drew ?_ | refine blk_alloc ?_ _)); exact BK395.out⟩, ⟨by repeat (first | (with_reducible first | exact HB.out | apply below_alloc | apply pw_below_drewN | apply below_drew1 | refine below_set ?_ GE372.out | refine below_set ?_ GE380.out | refine below_set ?_ GE394.out | refine below_set ?_ GE395.out) | exact HB.out)⟩⟩
              case round =>
                as_aux_lemma =>
                clear H'
                try clear c2
                try clear p2
                try clear c3
                try clear c6
                try clear c29
                try clear c30
                try clear c39
                try clear c67
                try clear p2
                obtain ⟨x14_3, rfl, HA, HK3, HO_6, HO_9, HO_373000, HO_381000, HO_395001, HO_396001, BK372, BK380, BK394, BK395, HB⟩ := hrel
                cases gk with
                | zero => exact absurd HA.out (by simp [laws_FnTurn.l0])
                | succ k3 =>
                  have H := HA.out
                  clear HA
                  simp only [laws_FnTurn.l0] at H
                  by_cases c68 : x14_3 < (t387.length : Int)
                  · rw [if_pos c68] at H
                    have c68b0 : decide (x14_3 < (t387.length : Int)) = true := decide_eq_true c68
                    clear c68
                    by_cases c69 : 0 ≤ x14_3
                    · rw [if_pos c69] at H
                      have c69b0 : decide (0 ≤ x14_3) = true := decide_eq_true c69
                      clear c69
                      replace H := Option.bind_eq_some_iff.mp H
                      obtain ⟨t408, A700, H⟩ := H
                      replace H : (if t408 = 1 then ((laws_lwMany.f k3 t381 (rd t387 x14_3)).bind fun t410 => (if t410 = 1 then (laws_FnTurn.l0 k3 t368 t381 (wrap64 (x14_3 + 1)) t373 t376 t377 t378 t379 t386 t387) else (some false))) else (some false)) = some r := H
                      have A70 := Aside0.mk A700
                      clear A700
                      by_cases c71 : t408 = 1
                      · rw [if_pos c71] at H
                        have c71b0 : (t408 == 1) = true := beq_iff_eq.mpr c71
                        have c71b1 : (t408 != 1) = false := bne_eq_false_iff_eq.mpr c71
                        clear c71
                        replace H := Option.bind_eq_some_iff.mp H
                        obtain ⟨t410, A720, H⟩ := H
                        replace H : (if t410 = 1 then (laws_FnTurn.l0 k3 t368 t381 (wrap64 (x14_3 + 1)) t373 t376 t377 t378 t379 t386 t387) else (some false)) = some r := H
                        have A72 := Aside0.mk A720
                        clear A720
                        by_cases c73 : t410 = 1
                        · rw [if_pos c73] at H
                          have c73b0 : (t410 == 1) = true := beq_iff_eq.mpr c73
                          have c73b1 : (t410 != 1) = false := bne_eq_false_iff_eq.mpr c73
                          clear c73
                          have H' := Aside0.mk H
                          clear H
                          have hnb74 := NB394_372.out
                          have hnc74 := NB372_394.out
                          have hnb75 := NB394_380.out
                          have hnc75 := NB380_394.out
                          have hnb76 := NB394_395.out
                          have hnc76 := NB395_394.out
                          have hcz77_0 : wr.cell? ⟨gb394, 0, none⟩ = some (.int .i64 t386) := (blk_cell BK394.out 0).trans rfl
                          have hcz77_1 : wr.cell? ⟨gb394, 1, none⟩ = some (.slice Ao32 t387.length co32) := (blk_cell BK394.out 1).trans rfl
                          have hfz77_0 := blk_frozen BK394.out 0
                          have hfz77_1 := blk_frozen BK394.out 1
                          try go_wp2
                          have n0_ := Aside0.mk (Kd.R_drew HO_6.out)
                          have n1_ := Aside0.mk (Kd.R_drew HO_9.out)
                          have n2_ := Aside0.mk (Kd.R_drew HO_373000.out)
                          have n3_ := Aside0.mk (Kd.R_drew HO_381000.out)
                          have n4_ := Aside0.mk (Kd.R_drew HO_395001.out)
                          have n5_ := Aside0.mk (Kd.R_drew HO_396001.out)
                          have n6_ := Aside0.mk (blk_drew BK372.out)
                          have n7_ := Aside0.mk (blk_drew BK380.out)
                          have n8_ := Aside0.mk (blk_drew BK394.out)
                          have n9_ := Aside0.mk (blk_drew BK395.out)
                          have n10_ := Aside0.mk (below_drew1 HB.out)
                          clear HO_6
                          clear HO_9
                          clear HO_373000
                          clear HO_381000
                          clear HO_395001
                          clear HO_396001
                          clear BK372
                          clear BK380
                          clear BK394
                          clear BK395
                          clear HB
                          have HO_6 := n0_
                          have HO_9 := n1_
                          have HO_373000 := n2_
                          have HO_381000 := n3_
                          have HO_395001 := n4_
                          have HO_396001 := n5_
                          have BK372 := n6_
                          have BK380 := n7_
                          have BK394 := n8_
                          have BK395 := n9_
                          have HB := n10_
                          clear n0_ n1_ n2_ n3_ n4_ n5_ n6_ n7_ n8_ n9_ n10_
                          have p407 : 0 ≤ (x14_3 : Int) := of_decide_eq_true (by first | (with_reducible assumption) | assumption)
                          have q407 : x14_3 < (t387.length : Int) := of_decide_eq_true (by first | (with_reducible assumption) | assumption)
                          obtain ⟨ad407, e407, hx407_0⟩ := Kd.at_int (Kd.R_reads' HO_395001.out).2.2 x14_3 p407 q407
                          cases e407
                          replace p407 := eq_true p407
                          replace q407 := eq_true q407
                          have p409 : 0 ≤ (x14_3 : Int) := of_decide_eq_true (by first | (with_reducible assumption) | assumption)
                          have q409 : x14_3 < (t387.length : Int) := of_decide_eq_true (by first | (with_reducible assumption) | assumption)
                          obtain ⟨ad409, e409, hx409_0⟩ := Kd.at_int (Kd.R_reads' HO_395001.out).2.2 x14_3 p409 q409
                          obtain rfl : ad407 = ad409 := (by injection e409)
                          replace p409 := eq_true p409
                          replace q409 := eq_true q409
                          refine start_ (n := 19) (S := fun w' => w'.cell? ⟨gb394, 0, none⟩ = some (.int .i64 t386) ∧ w'.cell? ⟨gb394, 1, none⟩ = some (.slice (some ad407) t387.length co32) ∧ w'.cell? (ad407.add (x14_3).toNat) = some (.int .i64 (rd t387 x14_3)) ∧ w'.cell? (ad407.add (x14_3).toNat) = some (.int .i64 (rd t387 x14_3))) (ds := []) #[false, false, false, false, false, false, false, false, false, false, false, false, false, false, false, false, false, false, false] (by kernel_rfl) rfl rfl ⟨(blk_cell BK394.out 0).trans rfl, (blk_cell BK394.out 1).trans rfl, hx407_0, hx409_0⟩ (fun hHeld => ?_); refine with_tabW laws_FnTurn.tab12 laws_FnTurn.bits12 (fun HT_ HW_ => ?_)
                          generalize wr.drew = w78 at HO_6 HO_9 HO_373000 HO_381000 HO_395001 HO_396001 BK372 BK380 BK394 BK395 HB hx407_0 hx409_0 hHeld ⊢
                          refine pure_ (i := 0) (N := some 86) (v := ?_) (a' := ?_) #[true, false, false, false, false, false, false, false, false, false, false, false, false, false, false, false, false, false, false] rfl rfl (any_of HT_.out (by kernel_rfl)) (fun _ _ _ h => h) (Or.inl ⟨by rfl, ?_⟩) ?_ ?_
                          rotate_left
                          · intro w'
                            go_simp
                            with_reducible rfl
                          rotate_left
                          · simp only [Act.put, List.setIfInBounds_toArray, List.set_cons_zero, List.set_cons_succ, i64_w, i32_w]
                            rfl
                          refine pure_ (i := 2) (N := some 88) (v := ?_) (a' := ?_) #[true, false, true, false, false, false, false, false, false, false, false, false, false, false, false, false, false, false, false] rfl rfl (any_of HT_.out (by kernel_rfl)) (fun _ _ _ h => h) (Or.inl ⟨by rfl, ?_⟩) ?_ ?_
                          rotate_left
                          · intro w'
                            go_simp
                            with_reducible rfl
                          rotate_left
                          · simp only [Act.put, List.setIfInBounds_toArray, List.set_cons_zero, List.set_cons_succ, i64_w, i32_w]
                            rfl
                          refine pure_ (i := 4) (N := some 90) (v := ?_) (a' := ?_) #[true, false, true, false, true, false, false, false, false, false, false, false, false, false, false, false, false, false, false] rfl rfl (any_of HT_.out (by kernel_rfl)) (fun _ _ _ h => h) (Or.inl ⟨by rfl, ?_⟩) ?_ ?_
                          rotate_left
                          · intro w'
                            go_simp
                            with_reducible rfl
                          rotate_left
                          · simp only [Act.put, List.setIfInBounds_toArray, List.set_cons_zero, List.set_cons_succ, i64_w, i32_w]
                            rfl
                          refine take_ (i := 1) (N := some 87) (v := ?_) (a' := ?_) #[true, true, true, false, true, false, false, false, false, false, false, false, false, false, false, false, false, false, false] rfl rfl (take_ofW HT_.out HW_.out (by kernel_rfl)) (fun _ _ _ h => h) (Or.inl ⟨by rfl, ?_⟩) hHeld ?_ ?_
                          rotate_left
                          · rintro w' ⟨s0, s1, s2, s3⟩
                            go_simp
                            with_reducible rfl
                          rotate_left
                          · simp only [Act.put, List.setIfInBounds_toArray, List.set_cons_zero, List.set_cons_succ, i64_w, i32_w]
                            rfl
                          refine take_ (i := 3) (N := some 89) (v := ?_) (a' := ?_) #[true, true, true, true, true, false, false, false, false, false, false, false, false, false, false, false, false, false, false] rfl rfl (take_ofW HT_.out HW_.out (by kernel_rfl)) (fun _ _ _ h => h) (Or.inl ⟨by rfl, ?_⟩) hHeld ?_ ?_
                          rotate_left
                          · rintro w' ⟨s0, s1, s2, s3⟩
                            go_simp
                            with_reducible rfl
                          rotate_left
                          · simp only [Act.put, List.setIfInBounds_toArray, List.set_cons_zero, List.set_cons_succ, i64_w, i32_w]
                            rfl
                          refine pure_ (i := 5) (N := some 91) (v := ?_) (a' := ?_) #[true, true, true, true, true, true, false, false, false, false, false, false, false, false, false, false, false, false, false] rfl rfl (any_of HT_.out (by kernel_rfl)) (fun _ _ _ h => h) (Or.inl ⟨by rfl, ?_⟩) ?_ ?_
                          rotate_left
                          · intro w'
                            go_simp
                            with_reducible rfl
                          rotate_left
                          · simp only [Act.put, List.setIfInBounds_toArray, List.set_cons_zero, List.set_cons_succ, i64_w, i32_w]
                            rfl
                          refine take_ (i := 6) (N := some 92) (v := ?_) (a' := ?_) #[true, true, true, true, true, true, true, false, false, false, false, false, false, false, false, false, false, false, false] rfl rfl (take_ofW HT_.out HW_.out (by kernel_rfl)) (fun _ _ _ h => h) (Or.inl ⟨by rfl, ?_⟩) hHeld ?_ ?_
                          rotate_left
                          · rintro w' ⟨s0, s1, s2, s3⟩
                            go_simp
                            with_reducible rfl
                          rotate_left
                          · simp only [Act.put, List.setIfInBounds_toArray, List.set_cons_zero, List.set_cons_succ, i64_w, i32_w]
                            rfl
                          refine one_ (i := 7) (N := some 93) #[true, true, true, true, true, true, true, true, false, false, false, false, false, false, false, false, false, false, false] rfl rfl (one_of HT_.out (by kernel_rfl)) (by decide) (fun K hK => ?_)
                          refine goes_ Try.func34 (by kernel_rfl) rfl #[.slice (some ad407) t387.length co32, .int .i64 (rd t387 x14_3)] (by rfl) rfl rfl (by (try simp only [List.map_toArray, List.map_cons, List.map_nil]); first | done | rfl | (simp only [List.length_drop, List.length_take]; rfl)) ?_
                          with_reducible refine (laws_lwMany.calls k3 _ _ t387 (rd t387 x14_3) t408 _ ?side1 ?side2 A70.out).mono ?_
                          (case side1 => repeat (first | exact (Kd.R_reads' HO_395001.out).2.2 | (with_reducible refine Kd.C_alloc ?_ _) | (with_reducible refine Kd.C_drewN ?_ _) | (with_reducible refine Kd.C_drew ?_)))
                          (case side2 => exact (Kd.R_reads' HO_395001.out).2.1)
                          rintro e w' ⟨rfl, ⟨nd, rfl⟩⟩
                          refine ⟨_, rfl, ?_⟩
                          refine hK.out _ _ ⟨(blk_cell BK394.out 0).trans rfl, (blk_cell BK394.out 1).trans rfl, hHeld.2.2.1, hHeld.2.2.2⟩ (fun hHeld => ?_)
                          clear hK K
                          refine norm_ (a' := ?_) ?_ ?_
                          rotate_left
                          · show Act.put _ (some 93) _ = _
                            simp only [Act.put, List.setIfInBounds_toArray, List.set_cons_zero, List.set_cons_succ, i64_w, i32_w]
                            rfl
                          refine pure_ (i := 8) (N := some 94) (v := ?_) (a' := ?_) #[true, true, true, true, true, true, true, true, true, false, false, false, false, false, false, false, false, false, false] rfl rfl (any_of HT_.out (by kernel_rfl)) (fun _ _ _ h => h) (Or.inl ⟨by rfl, ?_⟩) ?_ ?_
                          rotate_left
                          · intro w'
                            go_simp
                            with_reducible rfl
                          rotate_left
                          · simp only [Act.put, List.setIfInBounds_toArray, List.set_cons_zero, List.set_cons_succ, i64_w, i32_w]
                            rfl
                          refine pure_ (i := 9) (N := some 95) (v := ?_) (a' := ?_) #[true, true, true, true, true, true, true, true, true, true, false, false, false, false, false, false, false, false, false] rfl rfl (any_of HT_.out (by kernel_rfl)) (fun _ _ _ h => h) (Or.inl ⟨by rfl, ?_⟩) ?_ ?_
                          rotate_left
                          · intro w'
                            go_simp
                            with_reducible rfl
                          rotate_left
                          · simp only [Act.put, List.setIfInBounds_toArray, List.set_cons_zero, List.set_cons_succ, i64_w, i32_w]
                            rfl
                          refine pure_ (i := 10) (N := some 96) (v := ?_) (a' := ?_) #[true, true, true, true, true, true, true, true, true, true, true, false, false, false, false, false, false, false, false] rfl rfl (any_of HT_.out (by kernel_rfl)) (fun _ _ _ h => h) (Or.inl ⟨by rfl, ?_⟩) ?_ ?_
                          rotate_left
                          · intro w'
                            go_simp
                            with_reducible rfl
                          rotate_left
                          · simp only [Act.put, List.setIfInBounds_toArray, List.set_cons_zero, List.set_cons_succ, i64_w, i32_w]
                            rfl
                          refine pure_ (i := 11) (N := some 97) (v := ?_) (a' := ?_) #[true, true, true, true, true, true, true, true, true, true, true, true, false, false, false, false, false, false, false] rfl rfl (any_of HT_.out (by kernel_rfl)) (fun _ _ _ h => h) (Or.inl ⟨by rfl, ?_⟩) ?_ ?_
                          rotate_left
                          · intro w'
                            go_simp
                            with_reducible rfl
                          rotate_left
                          · simp only [Act.put, List.setIfInBounds_toArray, List.set_cons_zero, List.set_cons_succ, i64_w, i32_w]
                            rfl
                          refine pure_ (i := 13) (N := some 99) (v := ?_) (a' := ?_) #[true, true, true, true, true, true, true, true, true, true, true, true, false, true, false, false, false, false, false] rfl rfl (any_of HT_.out (by kernel_rfl)) (fun _ _ _ h => h) (Or.inl ⟨by rfl, ?_⟩) ?_ ?_
                          rotate_left
                          · intro w'
                            go_simp
                            with_reducible rfl
                          rotate_left
                          · simp only [Act.put, List.setIfInBounds_toArray, List.set_cons_zero, List.set_cons_succ, i64_w, i32_w]
                            rfl
                          refine take_ (i := 12) (N := some 98) (v := ?_) (a' := ?_) #[true, true, true, true, true, true, true, true, true, true, true, true, true, true, false, false, false, false, false] rfl rfl (take_ofW HT_.out HW_.out (by kernel_rfl)) (fun _ _ _ h => h) (Or.inl ⟨by rfl, ?_⟩) hHeld ?_ ?_
                          rotate_left
                          · rintro w' ⟨s0, s1, s2, s3⟩
                            go_simp
                            with_reducible rfl
                          rotate_left
                          · simp only [Act.put, List.setIfInBounds_toArray, List.set_cons_zero, List.set_cons_succ, i64_w, i32_w]
                            rfl
                          refine pure_ (i := 14) (N := some 100) (v := ?_) (a' := ?_) #[true, true, true, true, true, true, true, true, true, true, true, true, true, true, true, false, false, false, false] rfl rfl (any_of HT_.out (by kernel_rfl)) (fun _ _ _ h => h) (Or.inl ⟨by rfl, ?_⟩) ?_ ?_
                          rotate_left
                          · intro w'
                            go_simp
                            with_reducible rfl
                          rotate_left
                          · simp only [Act.put, List.setIfInBounds_toArray, List.set_cons_zero, List.set_cons_succ, i64_w, i32_w]
                            rfl
                          refine take_ (i := 15) (N := some 101) (v := ?_) (a' := ?_) #[true, true, true, true, true, true, true, true, true, true, true, true, true, true, true, true, false, false, false] rfl rfl (take_ofW HT_.out HW_.out (by kernel_rfl)) (fun _ _ _ h => h) (Or.inl ⟨by rfl, ?_⟩) hHeld ?_ ?_
                          rotate_left
                          · rintro w' ⟨s0, s1, s2, s3⟩
                            go_simp
                            with_reducible rfl
                          rotate_left
                          · simp only [Act.put, List.setIfInBounds_toArray, List.set_cons_zero, List.set_cons_succ, i64_w, i32_w]
                            rfl
                          refine one_ (i := 16) (N := some 102) #[true, true, true, true, true, true, true, true, true, true, true, true, true, true, true, true, true, false, false] rfl rfl (one_of HT_.out (by kernel_rfl)) (by decide) (fun K hK => ?_)
                          refine goes_ Try.func34 (by kernel_rfl) rfl #[.slice Ao23 t381.length co23, .int .i64 (rd t387 x14_3)] (by rfl) rfl rfl (by (try simp only [List.map_toArray, List.map_cons, List.map_nil]); first | done | rfl | (simp only [List.length_drop, List.length_take]; rfl)) ?_
                          with_reducible refine (laws_lwMany.calls k3 _ _ t381 (rd t387 x14_3) t410 _ ?side1 ?side2 A72.out).mono ?_
                          (case side1 => repeat (first | exact (Kd.R_reads' HO_9.out).2.2 | (with_reducible refine Kd.C_alloc ?_ _) | (with_reducible refine Kd.C_drewN ?_ _) | (with_reducible refine Kd.C_drew ?_)))
                          (case side2 => exact (Kd.R_reads' HO_9.out).2.1)
                          rintro e w' ⟨rfl, ⟨nd, rfl⟩⟩
                          refine ⟨_, rfl, ?_⟩
                          refine hK.out _ _ ⟨(blk_cell BK394.out 0).trans rfl, (blk_cell BK394.out 1).trans rfl, hHeld.2.2.1, hHeld.2.2.2⟩ (fun hHeld => ?_)
                          clear hK K
                          refine norm_ (a' := ?_) ?_ ?_
                          rotate_left
                          · show Act.put _ (some 102) _ = _
                            simp only [Act.put, List.setIfInBounds_toArray, List.set_cons_zero, List.set_cons_succ, i64_w, i32_w]
                            rfl
                          refine pure_ (i := 17) (N := some 103) (v := ?_) (a' := ?_) #[true, true, true, true, true, true, true, true, true, true, true, true, true, true, true, true, true, true, false] rfl rfl (any_of HT_.out (by kernel_rfl)) (fun _ _ _ h => h) (Or.inl ⟨by rfl, ?_⟩) ?_ ?_
                          rotate_left
                          · intro w'
                            go_simp
                            with_reducible rfl
                          rotate_left
                          · simp only [Act.put, List.setIfInBounds_toArray, List.set_cons_zero, List.set_cons_succ, i64_w, i32_w]
                            rfl
                          refine pure_ (i := 18) (N := some 104) (v := ?_) (a' := ?_) #[true, true, true, true, true, true, true, true, true, true, true, true, true, true, true, true, true, true, true] rfl rfl (any_of HT_.out (by kernel_rfl)) (fun _ _ _ h => h) (Or.inl ⟨by rfl, ?_⟩) ?_ ?_
                          rotate_left
                          · intro w'
                            go_simp
                            with_reducible rfl
                          rotate_left
                          · simp only [Act.put, List.setIfInBounds_toArray, List.set_cons_zero, List.set_cons_succ, i64_w, i32_w]
                            rfl
                          refine done_ (done_of HT_.out (by kernel_rfl)) ?_
                          try go_wp2
                          go_roundg k3
                          case measure => have := HJ2.out; have := HJ10.out; have := HK3.out; omega
                          case rel => exact ⟨(wrap64 (x14_3 + 1)), (by first | rfl | (simp; done) | (simp [*]; done)), H', ⟨by have := HJ2.out; have := HJ10.out; have := HK3.out; omega⟩, ⟨by (with_reducible repeat (first | apply Kd.R_alloc | apply Kd.R_drewN | apply Kd.R_drew)); exact HO_6.out⟩, ⟨by (with_reducible repeat (first | apply Kd.R_alloc | apply Kd.R_drewN | apply Kd.R_drew)); exact HO_9.out⟩, ⟨by (with_reducible repeat (first | apply Kd.R_alloc | apply Kd.R_drewN | apply Kd.R_drew)); exact HO_373000.out⟩, ⟨by (with_reducible repeat (first | apply Kd.R_alloc | apply Kd.R_drewN | apply Kd.R_drew)); exact HO_381000.out⟩, ⟨by (with_reducible repeat (first | apply Kd.R_alloc | apply Kd.R_drewN | apply Kd.R_drew)); exact HO_395001.out⟩, ⟨by (with_reducible repeat (first | apply Kd.R_alloc | apply Kd.R_drewN | apply Kd.R_drew)); exact HO_396001.out⟩, ⟨by (with_reducible repeat (first | refine blk_drewN ?_ _ | refine blk_drew ?_ | refine blk_alloc ?_ _)); exact BK372.out⟩, ⟨by (with_reducible repeat (first | refine blk_drewN ?_ _ | refine blk_drew ?_ | refine blk_alloc ?_ _)); exact BK380.out⟩, ⟨by (with_reducible repeat (first | refine blk_drewN ?_ _ | refine blk_drew ?_ | refine blk_alloc ?_ _)); exact BK394.out⟩, ⟨by (with_reducible repeat (first | refine blk_drewN ?_ _ | refine blk_drew ?_ | refine blk_alloc ?_ _)); exact BK395.out⟩, ⟨by repeat (first | (with_reducible first | exact HB.out | apply below_alloc | apply pw_below_drewN | apply below_drew1 | refine below_set ?_ GE372.out | refine below_set ?_ GE380.out | refine below_set ?_ GE394.out | refine below_set ?_ GE395.out) | exact HB.out)⟩⟩
                        · rw [if_neg c73] at H
                          have c73b0 : (t410 == 1) = false := beq_eq_false_iff_ne.mpr c73
                          have c73b1 : (t410 != 1) = true := bne_iff_ne.mpr c73
                          exact absurd ((Option.some.inj H).trans HT_.out) (by decide)
                      · rw [if_neg c71] at H
                        have c71b0 : (t408 == 1) = false := beq_eq_false_iff_ne.mpr c71
                        have c71b1 : (t408 != 1) = true := bne_iff_ne.mpr c71
                        exact absurd ((Option.some.inj H).trans HT_.out) (by decide)
                    · rw [if_neg c69] at H
                      exact absurd H (by simp)
                  · rw [if_neg c68] at H
                    have c68b0 : decide (x14_3 < (t387.length : Int)) = false := decide_eq_false c68
                    clear c68
                    by_cases c79 : t379 = 0
                    · rw [if_pos c79] at H
                      have c79b0 : (t379 == 0) = true := beq_iff_eq.mpr c79
                      have c79b1 : (t379 != 0) = false := bne_eq_false_iff_eq.mpr c79
                      clear c79
                      obtain ⟨y411, hy411⟩ : ∃ y_ : List Int, y_ = (([] : List Int)) := ⟨_, rfl⟩
                      replace H : (laws_FnTurn.l1 k3 t368 y411 0 t373 t376 t377 t378 t379) = some r := by first | (rw [hy411]; with_reducible exact H) | (have H2_ := (Option.bind_some _ _).symm.trans H; rw [hy411]; with_reducible exact H2_) | (have H2_ := (Option.bind_some _ _).symm.trans H; with_reducible exact H2_) | with_reducible exact H | (rw [hy411]; exact H) | exact H
                      have Ny411 := Aside0.mk hy411
                      clear hy411
                      have H' := Aside0.mk H
                      clear H
                      have hnb80 := NB394_372.out
                      have hnc80 := NB372_394.out
                      have hnb81 := NB394_380.out
                      have hnc81 := NB380_394.out
                      have hnb82 := NB394_395.out
                      have hnc82 := NB395_394.out
                      have hcz83_0 : wr.cell? ⟨gb394, 0, none⟩ = some (.int .i64 t386) := (blk_cell BK394.out 0).trans rfl
                      have hcz83_1 : wr.cell? ⟨gb394, 1, none⟩ = some (.slice Ao32 t387.length co32) := (blk_cell BK394.out 1).trans rfl
                      have hfz83_0 := blk_frozen BK394.out 0
                      have hfz83_1 := blk_frozen BK394.out 1
                      have hnb84 := NB380_372.out
                      have hnc84 := NB372_380.out
                      have hnb85 := NB380_395.out
                      have hnc85 := NB395_380.out
                      have hcz86_0 : wr.cell? ⟨gb380, 0, none⟩ = some (.slice Ao19 t373.length co19) := (blk_cell BK380.out 0).trans rfl
                      have hcz86_1 : wr.cell? ⟨gb380, 1, none⟩ = some (.int .i64 t376) := (blk_cell BK380.out 1).trans rfl
                      have hcz86_2 : wr.cell? ⟨gb380, 2, none⟩ = some (.int .i64 t377) := (blk_cell BK380.out 2).trans rfl
                      have hcz86_3 : wr.cell? ⟨gb380, 3, none⟩ = some (.int .i64 t378) := (blk_cell BK380.out 3).trans rfl
                      have hcz86_4 : wr.cell? ⟨gb380, 4, none⟩ = some (.int .i64 t379) := (blk_cell BK380.out 4).trans rfl
                      have hfz86_0 := blk_frozen BK380.out 0
                      have hfz86_1 := blk_frozen BK380.out 1
                      have hfz86_2 := blk_frozen BK380.out 2
                      have hfz86_3 := blk_frozen BK380.out 3
                      have hfz86_4 := blk_frozen BK380.out 4
                      go_wp2_with (first | ((with_reducible refine gate_dst (N := 108) rfl ?_); (try (refine gate_guard (by rfl) ?_; dsimp only)); refine Kd.R_lit (Kd.int .i64) _ 2 ?hg (N := 108) ?hd (xs := ([] : List Int)) (inner := []) (ok := fun _ => True) (okp := fun _ => True) ?hr ?hp (fun _ hk => hk) trivial (Below.refl _ _) (Nat.le_refl _) (by simp) ?_; (case hd => rfl); (case hg => rfl); (case hr => first | (go_simp; done) | (go_simp; rfl)); (case hp => exact (Reps.none _ _)); intro v412 w87 ho88 hb hg_ hnew_; clear hg_ hnew_; (first | rw [← Ny411.out] at ho88 | (simp only [Int.reduceToNat] at ho88; rw [← Ny411.out] at ho88)); have n0_ := Aside0.mk (Kd.R_elder' (by (with_reducible repeat (first | apply Kd.R_alloc | apply Kd.R_drewN | apply Kd.R_drew)); exact HO_6.out) (Kd.R_base ho88) hb); have n1_ := Aside0.mk (Kd.R_elder' (by (with_reducible repeat (first | apply Kd.R_alloc | apply Kd.R_drewN | apply Kd.R_drew)); exact HO_9.out) (Kd.R_base ho88) hb); have n2_ := Aside0.mk (Kd.R_elder' (by (with_reducible repeat (first | apply Kd.R_alloc | apply Kd.R_drewN | apply Kd.R_drew)); exact HO_373000.out) (Kd.R_base ho88) hb); have n3_ := Aside0.mk (Kd.R_elder' (by (with_reducible repeat (first | apply Kd.R_alloc | apply Kd.R_drewN | apply Kd.R_drew)); exact HO_381000.out) (Kd.R_base ho88) hb); have n4_ := Aside0.mk (Kd.R_elder' (by (with_reducible repeat (first | apply Kd.R_alloc | apply Kd.R_drewN | apply Kd.R_drew)); exact HO_395001.out) (Kd.R_base ho88) hb); have n5_ := Aside0.mk (Kd.R_elder' (by (with_reducible repeat (first | apply Kd.R_alloc | apply Kd.R_drewN | apply Kd.R_drew)); exact HO_396001.out) (Kd.R_base ho88) hb); have n6_ := Aside0.mk (Kd.R_lower (Kd.R_new' (Kd.R_new' (Kd.R_new' (Kd.R_new' (Kd.R_new' (Kd.R_new' ho88 (Kd.R_lt (by (with_reducible repeat (first | apply Kd.R_alloc | apply Kd.R_drewN | apply Kd.R_drew)); exact HO_6.out))) (Kd.R_lt (by (with_reducible repeat (first | apply Kd.R_alloc | apply Kd.R_drewN | apply Kd.R_drew)); exact HO_9.out))) (Kd.R_lt (by (with_reducible repeat (first | apply Kd.R_alloc | apply Kd.R_drewN | apply Kd.R_drew)); exact HO_373000.out))) (Kd.R_lt (by (with_reducible repeat (first | apply Kd.R_alloc | apply Kd.R_drewN | apply Kd.R_drew)); exact HO_381000.out))) (Kd.R_lt (by (with_reducible repeat (first | apply Kd.R_alloc | apply Kd.R_drewN | apply Kd.R_drew)); exact HO_395001.out))) (Kd.R_lt (by (with_reducible repeat (first | apply Kd.R_alloc | apply Kd.R_drewN | apply Kd.R_drew)); exact HO_396001.out))) (below_size (by repeat (first | (with_reducible first | exact HB.out | apply below_alloc | apply pw_below_drewN | apply below_drew1 | refine below_set ?_ GE372.out | refine below_set ?_ GE380.out | refine below_set ?_ GE394.out | refine below_set ?_ GE395.out) | exact HB.out)))); have n7_ := Aside0.mk (blk_below (g := gb372) (o := .cells #[.slice Ao14 t364.length co14, .int .i64 t367] 42 (0, 0)) (by (with_reducible repeat (first | refine blk_drewN ?_ _ | refine blk_drew ?_ | refine blk_alloc ?_ _)); exact BK372.out) hb); have n8_ := Aside0.mk (blk_below (g := gb380) (o := .cells #[.slice Ao19 t373.length co19, .int .i64 t376, .int .i64 t377, .int .i64 t378, .int .i64 t379] 46 (0, 0)) (by (with_reducible repeat (first | refine blk_drewN ?_ _ | refine blk_drew ?_ | refine blk_alloc ?_ _)); exact BK380.out) hb); have n9_ := Aside0.mk (blk_below (g := gb394) (o := .cells #[.int .i64 t386, .slice Ao32 t387.length co32] 51 (0, 0)) (by (with_reducible repeat (first | refine blk_drewN ?_ _ | refine blk_drew ?_ | refine blk_alloc ?_ _)); exact BK394.out) hb); have n10_ := Aside0.mk (blk_below (g := gb395) (o := .cells #[.int .i64 t390, .slice Ao36 t391.length co36] 51 (0, 0)) (by (with_reducible repeat (first | refine blk_drewN ?_ _ | refine blk_drew ?_ | refine blk_alloc ?_ _)); exact BK395.out) hb); have n11_ := Aside0.mk (below_step (by repeat (first | (with_reducible first | exact HB.out | apply below_alloc | apply pw_below_drewN | apply below_drew1 | refine below_set ?_ GE372.out | refine below_set ?_ GE380.out | refine below_set ?_ GE394.out | refine below_set ?_ GE395.out) | exact HB.out)) hb); clear HO_6; clear HO_9; clear HO_373000; clear HO_381000; clear HO_395001; clear HO_396001; clear BK372; clear BK380; clear BK394; clear BK395; clear HB; have HO_6 := n0_; have HO_9 := n1_; have HO_373000 := n2_; have HO_381000 := n3_; have HO_395001 := n4_; have HO_396001 := n5_; have HO413 := n6_; have BK372 := n7_; have BK380 := n8_; have BK394 := n9_; have BK395 := n10_; have HB := n11_; clear n0_ n1_ n2_ n3_ n4_ n5_ n6_ n7_ n8_ n9_ n10_ n11_; clear hb ho88))
                      go_loopg [15, 16] k3 (fun kq v15 v16 w' => ∃ (x15_4 : List Int) (x16_4 : Int) (x381000_4 : List Int) (x381001_4 : Int) (x381002_4 : Int) (x381003_4 : Int) (x381004_4 : Int) (u381000 : Value), v16 = .int .i64 x16_4 ∧ Aside0 (laws_FnTurn.l1 kq t368 x15_4 x16_4 x381000_4 x381001_4 x381002_4 x381003_4 x381004_4 = some r) ∧ Aside0 (kq ≤ k3) ∧ Aside0 (Kd.R (Kd.int .i64) 2 w' w.heap.size (fun k_ => some k_ ≠ (v15 : Value).ownBlock ∧ some k_ ≠ ((.slice Ao14 t364.length co14) : Value).ownBlock ∧ some k_ ≠ (u381000 : Value).ownBlock ∧ some k_ ≠ ((.slice Ao32 t387.length co32) : Value).ownBlock ∧ some k_ ≠ ((.slice Ao36 t391.length co36) : Value).ownBlock) (.slice Ao16 t368.length co16) t368) ∧ Aside0 (Kd.R (Kd.int .i64) 2 w' w.heap.size (fun k_ => some k_ ≠ ((.slice Ao16 t368.length co16) : Value).ownBlock ∧ some k_ ≠ ((.slice Ao14 t364.length co14) : Value).ownBlock ∧ some k_ ≠ (u381000 : Value).ownBlock ∧ some k_ ≠ ((.slice Ao32 t387.length co32) : Value).ownBlock ∧ some k_ ≠ ((.slice Ao36 t391.length co36) : Value).ownBlock) v15 x15_4) ∧ Aside0 (Kd.R (Kd.int .i64) 2 w' w.heap.size (fun k_ => some k_ ≠ ((.slice Ao16 t368.length co16) : Value).ownBlock ∧ some k_ ≠ (v15 : Value).ownBlock ∧ some k_ ≠ (u381000 : Value).ownBlock ∧ some k_ ≠ ((.slice Ao32 t387.length co32) : Value).ownBlock ∧ some k_ ≠ ((.slice Ao36 t391.length co36) : Value).ownBlock) (.slice Ao14 t364.length co14) t364) ∧ Aside0 (Kd.R (Kd.int .i64) 2 w' w.heap.size (fun k_ => some k_ ≠ ((.slice Ao16 t368.length co16) : Value).ownBlock ∧ some k_ ≠ (v15 : Value).ownBlock ∧ some k_ ≠ ((.slice Ao14 t364.length co14) : Value).ownBlock ∧ some k_ ≠ ((.slice Ao32 t387.length co32) : Value).ownBlock ∧ some k_ ≠ ((.slice Ao36 t391.length co36) : Value).ownBlock) u381000 x381000_4) ∧ Aside0 (Kd.R (Kd.int .i64) 2 w' w.heap.size (fun k_ => some k_ ≠ ((.slice Ao16 t368.length co16) : Value).ownBlock ∧ some k_ ≠ (v15 : Value).ownBlock ∧ some k_ ≠ ((.slice Ao14 t364.length co14) : Value).ownBlock ∧ some k_ ≠ (u381000 : Value).ownBlock ∧ some k_ ≠ ((.slice Ao36 t391.length co36) : Value).ownBlock) (.slice Ao32 t387.length co32) t387) ∧ Aside0 (Kd.R (Kd.int .i64) 2 w' w.heap.size (fun k_ => some k_ ≠ ((.slice Ao16 t368.length co16) : Value).ownBlock ∧ some k_ ≠ (v15 : Value).ownBlock ∧ some k_ ≠ ((.slice Ao14 t364.length co14) : Value).ownBlock ∧ some k_ ≠ (u381000 : Value).ownBlock ∧ some k_ ≠ ((.slice Ao32 t387.length co32) : Value).ownBlock) (.slice Ao36 t391.length co36) t391) ∧ Aside0 (w'.heap[gb372]? = some (.cells #[(.slice Ao14 t364.length co14), .int .i64 t367] 42 (0, 0))) ∧ Aside0 (w'.heap[gb380]? = some (.cells #[u381000, .int .i64 x381001_4, .int .i64 x381002_4, .int .i64 x381003_4, .int .i64 x381004_4] 46 (0, 0))) ∧ Aside0 (w'.heap[gb394]? = some (.cells #[.int .i64 t386, (.slice Ao32 t387.length co32)] 51 (0, 0))) ∧ Aside0 (w'.heap[gb395]? = some (.cells #[.int .i64 t390, (.slice Ao36 t391.length co36)] 51 (0, 0))) ∧ Aside0 (Below w.heap.size w w'))
                      case atStart => exact ⟨(y411), (0), (t373), (t376), (t377), (t378), (t379), (.slice Ao19 t373.length co19), (by first | rfl | (simp; done) | (simp [*]; done)), H', ⟨Nat.le_refl _⟩, ⟨by (with_reducible repeat (first | apply Kd.R_alloc | apply Kd.R_drewN | apply Kd.R_drew)); exact Kd.R_mono HO_6.out (fun _ hk => ⟨hk.2, ⟨hk.1.2.1, ⟨hk.1.2.2.1, ⟨hk.1.2.2.2.1, hk.1.2.2.2.2⟩⟩⟩⟩)⟩, ⟨by (with_reducible repeat (first | apply Kd.R_alloc | apply Kd.R_drewN | apply Kd.R_drew)); exact Kd.R_mono HO413.out (fun _ hk => ⟨hk.1.1.1.1.1.2, ⟨hk.1.1.1.2, ⟨hk.1.1.2, ⟨hk.1.2, hk.2⟩⟩⟩⟩)⟩, ⟨by (with_reducible repeat (first | apply Kd.R_alloc | apply Kd.R_drewN | apply Kd.R_drew)); exact Kd.R_mono HO_373000.out (fun _ hk => ⟨hk.1.1, ⟨hk.2, ⟨hk.1.2.2.1, ⟨hk.1.2.2.2.1, hk.1.2.2.2.2⟩⟩⟩⟩)⟩, ⟨by (with_reducible repeat (first | apply Kd.R_alloc | apply Kd.R_drewN | apply Kd.R_drew)); exact Kd.R_mono HO_381000.out (fun _ hk => ⟨hk.1.1, ⟨hk.2, ⟨hk.1.2.2.1, ⟨hk.1.2.2.2.1, hk.1.2.2.2.2⟩⟩⟩⟩)⟩, ⟨by (with_reducible repeat (first | apply Kd.R_alloc | apply Kd.R_drewN | apply Kd.R_drew)); exact Kd.R_mono HO_395001.out (fun _ hk => ⟨hk.1.1, ⟨hk.2, ⟨hk.1.2.2.1, ⟨hk.1.2.2.2.1, hk.1.2.2.2.2⟩⟩⟩⟩)⟩, ⟨by (with_reducible repeat (first | apply Kd.R_alloc | apply Kd.R_drewN | apply Kd.R_drew)); exact Kd.R_mono HO_396001.out (fun _ hk => ⟨hk.1.1, ⟨hk.2, ⟨hk.1.2.2.1, ⟨hk.1.2.2.2.1, hk.1.2.2.2.2⟩⟩⟩⟩)⟩, ⟨by (with_reducible repeat (first | refine blk_drewN ?_ _ | refine blk_drew ?_ | refine blk_alloc ?_ _)); exact BK372.out⟩, ⟨by (with_reducible repeat (first | refine blk_drewN ?_ _ | refine blk_drew ?_ | refine blk_alloc ?_ _)); exact BK380.out⟩, ⟨by (with_reducible repeat (first | refine blk_drewN ?_ _ | refine blk_drew ?_ | refine blk_alloc ?_ _)); exact BK394.out⟩, ⟨by (with_reducible repeat (first | refine blk_drewN ?_ _ | refine blk_drew ?_ | refine blk_alloc ?_ _)); exact BK395.out⟩, ⟨by repeat (first | (with_reducible first | exact HB.out | apply below_alloc | apply pw_below_drewN | apply below_drew1 | refine below_set ?_ GE372.out | refine below_set ?_ GE380.out | refine below_set ?_ GE394.out | refine below_set ?_ GE395.out) | exact HB.out)⟩⟩
                      case round =>
                        as_aux_lemma =>
                        clear H'
                        try clear c2
                        try clear p2
                        try clear c3
                        try clear p4
                        try clear q4
                        try clear hx4
                        try clear c6
                        try clear p6
                        try clear c7
                        try clear c8
                        try clear c29
                        try clear c30
                        try clear c34
                        try clear c39
                        try clear p40
                        try clear q40
                        try clear hx40
                        try clear p64
                        try clear c67
                        try clear c68
                        try clear c68b0
                        try clear c69
                        try clear c69b0
                        try clear c71
                        try clear c71b0
                        try clear c71b1
                        try clear c73
                        try clear c73b0
                        try clear c73b1
                        try clear c74
                        try clear c75
                        try clear c76
                        try clear c79
                        try clear c79b0
                        try clear c79b1
                        try clear c80
                        try clear c81
                        try clear c82
                        try clear c84
                        try clear c85
                        try clear hcz77_0
                        try clear hcz77_1
                        try clear hcz83_0
                        try clear hcz83_1
                        try clear hcz86_0
                        try clear hcz86_1
                        try clear hcz86_2
                        try clear hcz86_3
                        try clear hcz86_4
                        try clear hfz77_0
                        try clear hfz77_1
                        try clear hfz83_0
                        try clear hfz83_1
                        try clear hfz86_0
                        try clear hfz86_1
                        try clear hfz86_2
                        try clear hfz86_3
                        try clear hfz86_4
                        try clear hx407_0
                        try clear hx409_0
                        try clear p2
                        try clear p407
                        try clear p409
                        try clear q407
                        try clear q409
                        obtain ⟨x15_4, x16_4, x381000_4, x381001_4, x381002_4, x381003_4, x381004_4, u381000, rfl, HA, HK4, HO_6, HO_15, HO_373000, HO_381000, HO_395001, HO_396001, BK372, BK380, BK394, BK395, HB⟩ := hrel
                        cases gk with
                        | zero => exact absurd HA.out (by simp [laws_FnTurn.l1])
                        | succ k4 =>
                          have H := HA.out
                          clear HA
                          simp only [laws_FnTurn.l1] at H
                          by_cases c89 : x16_4 < (wrap64 (3 * (t368.length : Int)))
                          · rw [if_pos c89] at H
                            have c89b0 : decide (x16_4 < (wrap64 (3 * (t368.length : Int)))) = true := decide_eq_true c89
                            clear c89
                            by_cases c90 : x381004_4 = 0
                            · rw [if_pos c90] at H
                              have c90b0 : (x381004_4 == 0) = true := beq_iff_eq.mpr c90
                              have c90b1 : (x381004_4 != 0) = false := bne_eq_false_iff_eq.mpr c90
                              clear c90
                              replace H := Option.bind_eq_some_iff.mp H
                              obtain ⟨t414, A910, H⟩ := H
                              replace H : (if t414 = 1 then (if x15_4.length < 17592186044416 then ((impl_TurnNext.f k4 x381000_4 x381001_4 t368 x381003_4).bind fun bt418 => (laws_FnTurn.l1 k4 t368 (x15_4 ++ [x381002_4]) (wrap64 (x16_4 + 1)) bt418.1 bt418.2.1 bt418.2.2.1 bt418.2.2.2.1 bt418.2.2.2.2)) else (none)) else (some false)) = some r := H
                              have A91 := Aside0.mk A910
                              clear A910
                              by_cases c92 : t414 = 1
                              · rw [if_pos c92] at H
                                have c92b0 : (t414 == 1) = true := beq_iff_eq.mpr c92
                                have c92b1 : (t414 != 1) = false := bne_eq_false_iff_eq.mpr c92
                                clear c92
                                by_cases c93 : x15_4.length < 17592186044416
                                · rw [if_pos c93] at H
                                  have LMc93 := Aside0.mk c93
                                  clear c93
                                  obtain ⟨y415, hy415⟩ : ∃ y_ : List Int, y_ = (x15_4 ++ [x381002_4]) := ⟨_, rfl⟩
                                  replace H : ((impl_TurnNext.f k4 x381000_4 x381001_4 t368 x381003_4).bind fun bt418 => (laws_FnTurn.l1 k4 t368 y415 (wrap64 (x16_4 + 1)) bt418.1 bt418.2.1 bt418.2.2.1 bt418.2.2.2.1 bt418.2.2.2.2)) = some r := by first | (rw [hy415]; with_reducible exact H) | (have H2_ := (Option.bind_some _ _).symm.trans H; rw [hy415]; with_reducible exact H2_) | (have H2_ := (Option.bind_some _ _).symm.trans H; with_reducible exact H2_) | with_reducible exact H | (rw [hy415]; exact H) | exact H
                                  have Ny415 := Aside0.mk hy415
                                  clear hy415
                                  replace H := Option.bind_eq_some_iff.mp H
                                  obtain ⟨⟨t418, t421, t422, t423, t424⟩, A940, H⟩ := H
                                  replace H : (laws_FnTurn.l1 k4 t368 y415 (wrap64 (x16_4 + 1)) t418 t421 t422 t423 t424) = some r := H
                                  have A94 := Aside0.mk A940
                                  clear A940
                                  have H' := Aside0.mk H
                                  clear H
                                  have hnb95 := NB380_372.out
                                  have hnc95 := NB372_380.out
                                  have hnb96 := NB380_394.out
                                  have hnc96 := NB394_380.out
                                  have hnb97 := NB380_395.out
                                  have hnc97 := NB395_380.out
                                  have hcz98_0 : wr.cell? ⟨gb380, 0, none⟩ = some (u381000) := (blk_cell BK380.out 0).trans rfl
                                  have hcz98_1 : wr.cell? ⟨gb380, 1, none⟩ = some (.int .i64 x381001_4) := (blk_cell BK380.out 1).trans rfl
                                  have hcz98_2 : wr.cell? ⟨gb380, 2, none⟩ = some (.int .i64 x381002_4) := (blk_cell BK380.out 2).trans rfl
                                  have hcz98_3 : wr.cell? ⟨gb380, 3, none⟩ = some (.int .i64 x381003_4) := (blk_cell BK380.out 3).trans rfl
                                  have hcz98_4 : wr.cell? ⟨gb380, 4, none⟩ = some (.int .i64 x381004_4) := (blk_cell BK380.out 4).trans rfl
                                  have hfz98_0 := blk_frozen BK380.out 0
                                  have hfz98_1 := blk_frozen BK380.out 1
                                  have hfz98_2 := blk_frozen BK380.out 2
                                  have hfz98_3 := blk_frozen BK380.out 3
                                  have hfz98_4 := blk_frozen BK380.out 4
                                  go_wp2_with (first | (go_at_call 34; (with_reducible refine (laws_lwMany.calls k4 _ _ t368 x381002_4 t414 _ ?side1 ?side2 A91.out).mono ?_); (case side1 => repeat (first | exact (Kd.R_reads' HO_6.out).2.2 | (with_reducible refine Kd.C_alloc ?_ _) | (with_reducible refine Kd.C_drewN ?_ _) | (with_reducible refine Kd.C_drew ?_))); (case side2 => exact (Kd.R_reads' HO_6.out).2.1); rintro e w' ⟨rfl, ⟨nd, rfl⟩⟩; (try (rw [drewN_self wr]; generalize hq_ : World.drewN wr _ = wr; have n0_ := Aside0.mk (Kd.R_at hq_ HO_15.out); have n1_ := Aside0.mk (Kd.R_at hq_ HO_373000.out); have n2_ := Aside0.mk (Kd.R_at hq_ HO_381000.out); have n3_ := Aside0.mk (Kd.R_at hq_ HO_395001.out); have n4_ := Aside0.mk (Kd.R_at hq_ HO_396001.out); have n5_ := Aside0.mk (Kd.R_at hq_ HO_6.out); have n6_ : Aside0 (wr.heap[gb372]? = some (.cells #[.slice Ao14 t364.length co14, .int .i64 t367] 42 (0, 0))) := ⟨by rw [← hq_]; exact (by (with_reducible repeat (first | refine blk_drewN ?_ _ | refine blk_drew ?_ | refine blk_alloc ?_ _)); exact BK372.out)⟩; have n7_ : Aside0 (wr.heap[gb380]? = some (.cells #[u381000, .int .i64 x381001_4, .int .i64 x381002_4, .int .i64 x381003_4, .int .i64 x381004_4] 46 (0, 0))) := ⟨by rw [← hq_]; exact (by (with_reducible repeat (first | refine blk_drewN ?_ _ | refine blk_drew ?_ | refine blk_alloc ?_ _)); exact BK380.out)⟩; have n8_ : Aside0 (wr.heap[gb394]? = some (.cells #[.int .i64 t386, .slice Ao32 t387.length co32] 51 (0, 0))) := ⟨by rw [← hq_]; exact (by (with_reducible repeat (first | refine blk_drewN ?_ _ | refine blk_drew ?_ | refine blk_alloc ?_ _)); exact BK394.out)⟩; have n9_ : Aside0 (wr.heap[gb395]? = some (.cells #[.int .i64 t390, .slice Ao36 t391.length co36] 51 (0, 0))) := ⟨by rw [← hq_]; exact (by (with_reducible repeat (first | refine blk_drewN ?_ _ | refine blk_drew ?_ | refine blk_alloc ?_ _)); exact BK395.out)⟩; have n10_ : Aside0 (Below w.heap.size w wr) := ⟨by rw [← hq_]; exact (by repeat (first | (with_reducible first | exact HB.out | apply below_alloc | apply pw_below_drewN | apply below_drew1 | refine below_set ?_ GE372.out | refine below_set ?_ GE380.out | refine below_set ?_ GE394.out | refine below_set ?_ GE395.out) | exact HB.out))⟩; clear HO_15 HO_373000 HO_381000 HO_395001 HO_396001 HO_6 BK372 BK380 BK394 BK395 HB hq_; have HO_15 := n0_; have HO_373000 := n1_; have HO_381000 := n2_; have HO_395001 := n3_; have HO_396001 := n4_; have HO_6 := n5_; have BK372 := n6_; have BK380 := n7_; have BK394 := n8_; have BK395 := n9_; have HB := n10_; clear n0_ n1_ n2_ n3_ n4_ n5_ n6_ n7_ n8_ n9_ n10_; have hcz98_0 : wr.cell? ⟨gb380, 0, none⟩ = some (u381000) := (blk_cell BK380.out 0).trans rfl; have hcz98_1 : wr.cell? ⟨gb380, 1, none⟩ = some (.int .i64 x381001_4) := (blk_cell BK380.out 1).trans rfl; have hcz98_2 : wr.cell? ⟨gb380, 2, none⟩ = some (.int .i64 x381002_4) := (blk_cell BK380.out 2).trans rfl; have hcz98_3 : wr.cell? ⟨gb380, 3, none⟩ = some (.int .i64 x381003_4) := (blk_cell BK380.out 3).trans rfl; have hcz98_4 : wr.cell? ⟨gb380, 4, none⟩ = some (.int .i64 x381004_4) := (blk_cell BK380.out 4).trans rfl; have hfz98_0 := blk_frozen BK380.out 0; have hfz98_1 := blk_frozen BK380.out 1; have hfz98_2 := blk_frozen BK380.out 2; have hfz98_3 := blk_frozen BK380.out 3; have hfz98_4 := blk_frozen BK380.out 4))) | ((with_reducible refine gate_builtin (b := .append) (xs := #[.tmp 126, .tmp 129]) rfl ?_); (try (refine gate_guard (by rfl) ?_; dsimp only)); at_builtin; refine Kd.R_append (Kd.int .i64) (w0 := w) w.heap.size rfl (.tmp 126) (.tmp 129) 40 2 (.int .i64 0) 8 rfl Try.underlying40 info2 rfl (by decide) (by omega) u15 x15_4 x381002_4 [.int .i64 x381002_4] (fun k_ => some k_ ≠ (.slice Ao16 t368.length co16 : Value).ownBlock ∧ some k_ ≠ (.slice Ao14 t364.length co14 : Value).ownBlock ∧ some k_ ≠ (u381000 : Value).ownBlock ∧ some k_ ≠ (.slice Ao32 t387.length co32 : Value).ownBlock ∧ some k_ ≠ (.slice Ao36 t391.length co36 : Value).ownBlock) (fun _ => False) rfl rfl ?aP (fun _ hk => hk.elim) ?aF ?aO ?aB ?aS ?aL ?_; (case aP => exact rfl); (case aB => exact (by repeat (first | (with_reducible first | exact HB.out | apply below_alloc | apply pw_below_drewN | apply below_drew1 | refine below_set ?_ GE372.out | refine below_set ?_ GE380.out | refine below_set ?_ GE394.out | refine below_set ?_ GE395.out) | exact HB.out))); (case aF => exact (fun k_ hk => ⟨Kd.fresh' (Kd.R_lt (by (with_reducible repeat (first | apply Kd.R_alloc | apply Kd.R_drewN | apply Kd.R_drew)); exact HO_6.out)) k_ hk, Kd.fresh' (Kd.R_lt (by (with_reducible repeat (first | apply Kd.R_alloc | apply Kd.R_drewN | apply Kd.R_drew)); exact HO_373000.out)) k_ hk, Kd.fresh' (Kd.R_lt (by (with_reducible repeat (first | apply Kd.R_alloc | apply Kd.R_drewN | apply Kd.R_drew)); exact HO_381000.out)) k_ hk, Kd.fresh' (Kd.R_lt (by (with_reducible repeat (first | apply Kd.R_alloc | apply Kd.R_drewN | apply Kd.R_drew)); exact HO_395001.out)) k_ hk, Kd.fresh' (Kd.R_lt (by (with_reducible repeat (first | apply Kd.R_alloc | apply Kd.R_drewN | apply Kd.R_drew)); exact HO_396001.out)) k_ hk⟩)); (case aO => exact (by (with_reducible repeat (first | apply Kd.R_alloc | apply Kd.R_drewN | apply Kd.R_drew)); exact HO_15.out)); (case aS => exact (below_size (by repeat (first | (with_reducible first | exact HB.out | apply below_alloc | apply pw_below_drewN | apply below_drew1 | refine below_set ?_ GE372.out | refine below_set ?_ GE380.out | refine below_set ?_ GE394.out | refine below_set ?_ GE395.out) | exact HB.out)))); (case aL => have := LMc93.out; omega); intro v416 w99 ho hb hg hat; rw [← Ny415.out] at ho; have n0_ := Aside0.mk (Kd.R_after (ok := (fun k_ => some k_ ≠ (.slice Ao14 t364.length co14 : Value).ownBlock ∧ some k_ ≠ (u381000 : Value).ownBlock ∧ some k_ ≠ (.slice Ao32 t387.length co32 : Value).ownBlock ∧ some k_ ≠ (.slice Ao36 t391.length co36 : Value).ownBlock)) (by (with_reducible repeat (first | apply Kd.R_alloc | apply Kd.R_drewN | apply Kd.R_drew)); exact Kd.R_mono HO_6.out (fun _ hk => ⟨⟨hk.2.1, ⟨hk.2.2.1, ⟨hk.2.2.2.1, hk.2.2.2.2⟩⟩⟩, hk.1⟩)) hg hat); have n1_ := Aside0.mk (Kd.R_after (ok := (fun k_ => some k_ ≠ (.slice Ao16 t368.length co16 : Value).ownBlock ∧ some k_ ≠ (u381000 : Value).ownBlock ∧ some k_ ≠ (.slice Ao32 t387.length co32 : Value).ownBlock ∧ some k_ ≠ (.slice Ao36 t391.length co36 : Value).ownBlock)) (by (with_reducible repeat (first | apply Kd.R_alloc | apply Kd.R_drewN | apply Kd.R_drew)); exact Kd.R_mono HO_373000.out (fun _ hk => ⟨⟨hk.1, ⟨hk.2.2.1, ⟨hk.2.2.2.1, hk.2.2.2.2⟩⟩⟩, hk.2.1⟩)) hg hat); have n2_ := Aside0.mk (Kd.R_after (ok := (fun k_ => some k_ ≠ (.slice Ao16 t368.length co16 : Value).ownBlock ∧ some k_ ≠ (.slice Ao14 t364.length co14 : Value).ownBlock ∧ some k_ ≠ (.slice Ao32 t387.length co32 : Value).ownBlock ∧ some k_ ≠ (.slice Ao36 t391.length co36 : Value).ownBlock)) (by (with_reducible repeat (first | apply Kd.R_alloc | apply Kd.R_drewN | apply Kd.R_drew)); exact Kd.R_mono HO_381000.out (fun _ hk => ⟨⟨hk.1, ⟨hk.2.2.1, ⟨hk.2.2.2.1, hk.2.2.2.2⟩⟩⟩, hk.2.1⟩)) hg hat); have n3_ := Aside0.mk (Kd.R_after (ok := (fun k_ => some k_ ≠ (.slice Ao16 t368.length co16 : Value).ownBlock ∧ some k_ ≠ (.slice Ao14 t364.length co14 : Value).ownBlock ∧ some k_ ≠ (u381000 : Value).ownBlock ∧ some k_ ≠ (.slice Ao36 t391.length co36 : Value).ownBlock)) (by (with_reducible repeat (first | apply Kd.R_alloc | apply Kd.R_drewN | apply Kd.R_drew)); exact Kd.R_mono HO_395001.out (fun _ hk => ⟨⟨hk.1, ⟨hk.2.2.1, ⟨hk.2.2.2.1, hk.2.2.2.2⟩⟩⟩, hk.2.1⟩)) hg hat); have n4_ := Aside0.mk (Kd.R_after (ok := (fun k_ => some k_ ≠ (.slice Ao16 t368.length co16 : Value).ownBlock ∧ some k_ ≠ (.slice Ao14 t364.length co14 : Value).ownBlock ∧ some k_ ≠ (u381000 : Value).ownBlock ∧ some k_ ≠ (.slice Ao32 t387.length co32 : Value).ownBlock)) (by (with_reducible repeat (first | apply Kd.R_alloc | apply Kd.R_drewN | apply Kd.R_drew)); exact Kd.R_mono HO_396001.out (fun _ hk => ⟨⟨hk.1, ⟨hk.2.2.1, ⟨hk.2.2.2.1, hk.2.2.2.2⟩⟩⟩, hk.2.1⟩)) hg hat); have n5_ := Aside0.mk (blk_grown (g := gb372) (o := .cells #[.slice Ao14 t364.length co14, .int .i64 t367] 42 (0, 0)) (by (with_reducible repeat (first | refine blk_drewN ?_ _ | refine blk_drew ?_ | refine blk_alloc ?_ _)); exact BK372.out) hg (Kd.R_ne HO_15.out BK372.out (by decide))); have n6_ := Aside0.mk (blk_grown (g := gb380) (o := .cells #[u381000, .int .i64 x381001_4, .int .i64 x381002_4, .int .i64 x381003_4, .int .i64 x381004_4] 46 (0, 0)) (by (with_reducible repeat (first | refine blk_drewN ?_ _ | refine blk_drew ?_ | refine blk_alloc ?_ _)); exact BK380.out) hg (Kd.R_ne HO_15.out BK380.out (by decide))); have n7_ := Aside0.mk (blk_grown (g := gb394) (o := .cells #[.int .i64 t386, .slice Ao32 t387.length co32] 51 (0, 0)) (by (with_reducible repeat (first | refine blk_drewN ?_ _ | refine blk_drew ?_ | refine blk_alloc ?_ _)); exact BK394.out) hg (Kd.R_ne HO_15.out BK394.out (by decide))); have n8_ := Aside0.mk (blk_grown (g := gb395) (o := .cells #[.int .i64 t390, .slice Ao36 t391.length co36] 51 (0, 0)) (by (with_reducible repeat (first | refine blk_drewN ?_ _ | refine blk_drew ?_ | refine blk_alloc ?_ _)); exact BK395.out) hg (Kd.R_ne HO_15.out BK395.out (by decide))); have n9_ := Aside0.mk (hb); have n10_ := Aside0.mk (ho); clear HO_6; clear HO_373000; clear HO_381000; clear HO_395001; clear HO_396001; clear BK372; clear BK380; clear BK394; clear BK395; clear HB; clear HO_15; have HO_6 := n0_; have HO_373000 := n1_; have HO_381000 := n2_; have HO_395001 := n3_; have HO_396001 := n4_; have BK372 := n5_; have BK380 := n6_; have BK394 := n7_; have BK395 := n8_; have HB := n9_; have HO417 := n10_; clear n0_ n1_ n2_ n3_ n4_ n5_ n6_ n7_ n8_ n9_ n10_; clear ho hb hg hat; have hcz100_0 : w99.cell? ⟨gb380, 0, none⟩ = some (u381000) := (blk_cell BK380.out 0).trans rfl; have hcz100_1 : w99.cell? ⟨gb380, 1, none⟩ = some (.int .i64 x381001_4) := (blk_cell BK380.out 1).trans rfl; have hcz100_2 : w99.cell? ⟨gb380, 2, none⟩ = some (.int .i64 x381002_4) := (blk_cell BK380.out 2).trans rfl; have hcz100_3 : w99.cell? ⟨gb380, 3, none⟩ = some (.int .i64 x381003_4) := (blk_cell BK380.out 3).trans rfl; have hcz100_4 : w99.cell? ⟨gb380, 4, none⟩ = some (.int .i64 x381004_4) := (blk_cell BK380.out 4).trans rfl; have hfz100_0 := blk_frozen BK380.out 0; have hfz100_1 := blk_frozen BK380.out 1; have hfz100_2 := blk_frozen BK380.out 2; have hfz100_3 := blk_frozen BK380.out 3; have hfz100_4 := blk_frozen BK380.out 4; obtain ⟨Ao101, co101, eo101⟩ := Kd.R_slice HO_381000.out; subst eo101) | ((with_reducible refine gate_callee (f := 25) rfl ?_); refine goesL_ (some 136) rfl rfl Try.func25 (by kernel_rfl) rfl #[.agg #[.slice Ao101 x381000_4.length co101, .int .i64 x381001_4], .slice Ao16 t368.length co16, .int .i64 x381003_4] rfl (by (try simp only [List.map_toArray, List.map_cons, List.map_nil]); first | done | rfl | (simp only [List.length_drop, List.length_take]; rfl)) ?_; (with_reducible refine (impl_TurnNext.calls k4 _ _ x381000_4 x381001_4 _ _ t368 x381003_4 t418 t421 t422 t423 t424 _ ?side1 ?side2 ?side3 ?side4 A94.out).mono ?_); (case side1 => repeat (first | exact (Kd.R_reads' HO_381000.out).2.2 | (with_reducible refine Kd.C_alloc ?_ _) | (with_reducible refine Kd.C_drewN ?_ _) | (with_reducible refine Kd.C_drew ?_))); (case side2 => exact (Kd.R_reads' HO_381000.out).2.1); (case side3 => repeat (first | exact (Kd.R_reads' HO_6.out).2.2 | (with_reducible refine Kd.C_alloc ?_ _) | (with_reducible refine Kd.C_drewN ?_ _) | (with_reducible refine Kd.C_drew ?_))); (case side4 => exact (Kd.R_reads' HO_6.out).2.1); rintro e w102 ⟨v419, rfl, ho0, hb⟩; refine ⟨_, rfl, ?_⟩; have n0_ := Aside0.mk (Kd.R_elder' (by (with_reducible repeat (first | apply Kd.R_alloc | apply Kd.R_drewN | apply Kd.R_drew)); exact HO_6.out) (Kd.R_base ho0) hb); have n1_ := Aside0.mk (Kd.R_elder' (by (with_reducible repeat (first | apply Kd.R_alloc | apply Kd.R_drewN | apply Kd.R_drew)); exact HO_373000.out) (Kd.R_base ho0) hb); have n2_ := Aside0.mk (Kd.R_elder' (by (with_reducible repeat (first | apply Kd.R_alloc | apply Kd.R_drewN | apply Kd.R_drew)); exact HO_381000.out) (Kd.R_base ho0) hb); have n3_ := Aside0.mk (Kd.R_elder' (by (with_reducible repeat (first | apply Kd.R_alloc | apply Kd.R_drewN | apply Kd.R_drew)); exact HO_395001.out) (Kd.R_base ho0) hb); have n4_ := Aside0.mk (Kd.R_elder' (by (with_reducible repeat (first | apply Kd.R_alloc | apply Kd.R_drewN | apply Kd.R_drew)); exact HO_396001.out) (Kd.R_base ho0) hb); have n5_ := Aside0.mk (Kd.R_elder' (by (with_reducible repeat (first | apply Kd.R_alloc | apply Kd.R_drewN | apply Kd.R_drew)); exact HO417.out) (Kd.R_base ho0) hb); have n6_ := Aside0.mk (Kd.R_lower (Kd.R_new' (Kd.R_new' (Kd.R_new' (Kd.R_new' (Kd.R_new' (Kd.R_new' ho0 (Kd.R_lt (by (with_reducible repeat (first | apply Kd.R_alloc | apply Kd.R_drewN | apply Kd.R_drew)); exact HO_6.out))) (Kd.R_lt (by (with_reducible repeat (first | apply Kd.R_alloc | apply Kd.R_drewN | apply Kd.R_drew)); exact HO_373000.out))) (Kd.R_lt (by (with_reducible repeat (first | apply Kd.R_alloc | apply Kd.R_drewN | apply Kd.R_drew)); exact HO_381000.out))) (Kd.R_lt (by (with_reducible repeat (first | apply Kd.R_alloc | apply Kd.R_drewN | apply Kd.R_drew)); exact HO_395001.out))) (Kd.R_lt (by (with_reducible repeat (first | apply Kd.R_alloc | apply Kd.R_drewN | apply Kd.R_drew)); exact HO_396001.out))) (Kd.R_lt (by (with_reducible repeat (first | apply Kd.R_alloc | apply Kd.R_drewN | apply Kd.R_drew)); exact HO417.out))) (below_size (by repeat (first | (with_reducible first | exact HB.out | apply below_alloc | apply pw_below_drewN | apply below_drew1 | refine below_set ?_ GE372.out | refine below_set ?_ GE380.out | refine below_set ?_ GE394.out | refine below_set ?_ GE395.out) | exact HB.out)))); have n7_ := Aside0.mk (blk_below (g := gb372) (o := .cells #[.slice Ao14 t364.length co14, .int .i64 t367] 42 (0, 0)) (by (with_reducible repeat (first | refine blk_drewN ?_ _ | refine blk_drew ?_ | refine blk_alloc ?_ _)); exact BK372.out) hb); have n8_ := Aside0.mk (blk_below (g := gb380) (o := .cells #[.slice Ao101 x381000_4.length co101, .int .i64 x381001_4, .int .i64 x381002_4, .int .i64 x381003_4, .int .i64 x381004_4] 46 (0, 0)) (by (with_reducible repeat (first | refine blk_drewN ?_ _ | refine blk_drew ?_ | refine blk_alloc ?_ _)); exact BK380.out) hb); have n9_ := Aside0.mk (blk_below (g := gb394) (o := .cells #[.int .i64 t386, .slice Ao32 t387.length co32] 51 (0, 0)) (by (with_reducible repeat (first | refine blk_drewN ?_ _ | refine blk_drew ?_ | refine blk_alloc ?_ _)); exact BK394.out) hb); have n10_ := Aside0.mk (blk_below (g := gb395) (o := .cells #[.int .i64 t390, .slice Ao36 t391.length co36] 51 (0, 0)) (by (with_reducible repeat (first | refine blk_drewN ?_ _ | refine blk_drew ?_ | refine blk_alloc ?_ _)); exact BK395.out) hb); have n11_ := Aside0.mk (below_step (by repeat (first | (with_reducible first | exact HB.out | apply below_alloc | apply pw_below_drewN | apply below_drew1 | refine below_set ?_ GE372.out | refine below_set ?_ GE380.out | refine below_set ?_ GE394.out | refine below_set ?_ GE395.out) | exact HB.out)) hb); clear HO_6; clear HO_373000; clear HO_381000; clear HO_395001; clear HO_396001; clear HO417; clear BK372; clear BK380; clear BK394; clear BK395; clear HB; have HO_6 := n0_; have HO_373000 := n1_; have HO_381000 := n2_; have HO_395001 := n3_; have HO_396001 := n4_; have HO417 := n5_; have HO420 := n6_; have BK372 := n7_; have BK380 := n8_; have BK394 := n9_; have BK395 := n10_; have HB := n11_; clear n0_ n1_ n2_ n3_ n4_ n5_ n6_ n7_ n8_ n9_ n10_ n11_; (try clear hb); (try clear hb2); (try clear hk); (try clear hi); (try clear ho0); obtain ⟨Ao103, co103, eo103⟩ := Kd.R_slice HO420.out; subst eo103; have hcz104_0 : w102.cell? ⟨gb380, 0, none⟩ = some (.slice Ao101 x381000_4.length co101) := (blk_cell BK380.out 0).trans rfl; have hcz104_1 : w102.cell? ⟨gb380, 1, none⟩ = some (.int .i64 x381001_4) := (blk_cell BK380.out 1).trans rfl; have hcz104_2 : w102.cell? ⟨gb380, 2, none⟩ = some (.int .i64 x381002_4) := (blk_cell BK380.out 2).trans rfl; have hcz104_3 : w102.cell? ⟨gb380, 3, none⟩ = some (.int .i64 x381003_4) := (blk_cell BK380.out 3).trans rfl; have hcz104_4 : w102.cell? ⟨gb380, 4, none⟩ = some (.int .i64 x381004_4) := (blk_cell BK380.out 4).trans rfl; have hfz104_0 := blk_frozen BK380.out 0; have hfz104_1 := blk_frozen BK380.out 1; have hfz104_2 := blk_frozen BK380.out 2; have hfz104_3 := blk_frozen BK380.out 3; have hfz104_4 := blk_frozen BK380.out 4))
                                  go_roundg k4
                                  case measure => have := HJ2.out; have := HJ10.out; have := HK3.out; have := HK4.out; omega
                                  case rel => exact ⟨(y415), (wrap64 (x16_4 + 1)), (t418), (t421), (t422), (t423), (t424), (.slice Ao103 t418.length co103), (by first | rfl | (simp; done) | (simp [*]; done)), H', ⟨by have := HJ2.out; have := HJ10.out; have := HK3.out; have := HK4.out; omega⟩, ⟨by (with_reducible repeat (first | apply Kd.R_alloc | apply Kd.R_drewN | apply Kd.R_drew)); exact Kd.R_mono (Kd.R_far (p := ⟨gb380, 4, none⟩) (Kd.R_far (p := ⟨gb380, 3, none⟩) (Kd.R_far (p := ⟨gb380, 2, none⟩) (Kd.R_far (p := ⟨gb380, 1, none⟩) (Kd.R_far (p := ⟨gb380, 0, none⟩) (Kd.R_types HO_6.out BK380.out (by decide)) (fun _ hk => hk.2) (.slice Ao103 t418.length co103)) (fun _ hk => hk.2) (.int .i64 t421)) (fun _ hk => hk.2) (.int .i64 t422)) (fun _ hk => hk.2) (.int .i64 t423)) (fun _ hk => hk.2) (.int .i64 t424)) (fun _ hk => ⟨hk.1.1.2, ⟨hk.1.1.1.1, ⟨hk.1.2, ⟨hk.1.1.1.2.2.1, hk.1.1.1.2.2.2⟩⟩⟩⟩)⟩, ⟨by (with_reducible repeat (first | apply Kd.R_alloc | apply Kd.R_drewN | apply Kd.R_drew)); exact Kd.R_mono (Kd.R_far (p := ⟨gb380, 4, none⟩) (Kd.R_far (p := ⟨gb380, 3, none⟩) (Kd.R_far (p := ⟨gb380, 2, none⟩) (Kd.R_far (p := ⟨gb380, 1, none⟩) (Kd.R_far (p := ⟨gb380, 0, none⟩) (Kd.R_types HO417.out BK380.out (by decide)) (fun _ hk => hk.2) (.slice Ao103 t418.length co103)) (fun _ hk => hk.2) (.int .i64 t421)) (fun _ hk => hk.2) (.int .i64 t422)) (fun _ hk => hk.2) (.int .i64 t423)) (fun _ hk => hk.2) (.int .i64 t424)) (fun _ hk => ⟨hk.1.1.1, ⟨hk.1.1.2.1, ⟨hk.1.2, ⟨hk.1.1.2.2.2.1, hk.1.1.2.2.2.2⟩⟩⟩⟩)⟩, ⟨by (with_reducible repeat (first | apply Kd.R_alloc | apply Kd.R_drewN | apply Kd.R_drew)); exact Kd.R_mono (Kd.R_far (p := ⟨gb380, 4, none⟩) (Kd.R_far (p := ⟨gb380, 3, none⟩) (Kd.R_far (p := ⟨gb380, 2, none⟩) (Kd.R_far (p := ⟨gb380, 1, none⟩) (Kd.R_far (p := ⟨gb380, 0, none⟩) (Kd.R_types HO_373000.out BK380.out (by decide)) (fun _ hk => hk.2) (.slice Ao103 t418.length co103)) (fun _ hk => hk.2) (.int .i64 t421)) (fun _ hk => hk.2) (.int .i64 t422)) (fun _ hk => hk.2) (.int .i64 t423)) (fun _ hk => hk.2) (.int .i64 t424)) (fun _ hk => ⟨hk.1.1.1.1, ⟨hk.1.1.2, ⟨hk.1.2, ⟨hk.1.1.1.2.2.1, hk.1.1.1.2.2.2⟩⟩⟩⟩)⟩, ⟨by (with_reducible repeat (first | apply Kd.R_alloc | apply Kd.R_drewN | apply Kd.R_drew)); exact Kd.R_mono (Kd.R_far (p := ⟨gb380, 4, none⟩) (Kd.R_far (p := ⟨gb380, 3, none⟩) (Kd.R_far (p := ⟨gb380, 2, none⟩) (Kd.R_far (p := ⟨gb380, 1, none⟩) (Kd.R_far (p := ⟨gb380, 0, none⟩) (Kd.R_types HO420.out BK380.out (by decide)) (fun _ hk => hk.2) (.slice Ao103 t418.length co103)) (fun _ hk => hk.2) (.int .i64 t421)) (fun _ hk => hk.2) (.int .i64 t422)) (fun _ hk => hk.2) (.int .i64 t423)) (fun _ hk => hk.2) (.int .i64 t424)) (fun _ hk => ⟨hk.1.1.1.1.1.1.2, ⟨hk.1.2, ⟨hk.1.1.1.1.1.2, ⟨hk.1.1.1.2, hk.1.1.2⟩⟩⟩⟩)⟩, ⟨by (with_reducible repeat (first | apply Kd.R_alloc | apply Kd.R_drewN | apply Kd.R_drew)); exact Kd.R_mono (Kd.R_far (p := ⟨gb380, 4, none⟩) (Kd.R_far (p := ⟨gb380, 3, none⟩) (Kd.R_far (p := ⟨gb380, 2, none⟩) (Kd.R_far (p := ⟨gb380, 1, none⟩) (Kd.R_far (p := ⟨gb380, 0, none⟩) (Kd.R_types HO_395001.out BK380.out (by decide)) (fun _ hk => hk.2) (.slice Ao103 t418.length co103)) (fun _ hk => hk.2) (.int .i64 t421)) (fun _ hk => hk.2) (.int .i64 t422)) (fun _ hk => hk.2) (.int .i64 t423)) (fun _ hk => hk.2) (.int .i64 t424)) (fun _ hk => ⟨hk.1.1.1.1, ⟨hk.1.1.2, ⟨hk.1.1.1.2.1, ⟨hk.1.2, hk.1.1.1.2.2.2⟩⟩⟩⟩)⟩, ⟨by (with_reducible repeat (first | apply Kd.R_alloc | apply Kd.R_drewN | apply Kd.R_drew)); exact Kd.R_mono (Kd.R_far (p := ⟨gb380, 4, none⟩) (Kd.R_far (p := ⟨gb380, 3, none⟩) (Kd.R_far (p := ⟨gb380, 2, none⟩) (Kd.R_far (p := ⟨gb380, 1, none⟩) (Kd.R_far (p := ⟨gb380, 0, none⟩) (Kd.R_types HO_396001.out BK380.out (by decide)) (fun _ hk => hk.2) (.slice Ao103 t418.length co103)) (fun _ hk => hk.2) (.int .i64 t421)) (fun _ hk => hk.2) (.int .i64 t422)) (fun _ hk => hk.2) (.int .i64 t423)) (fun _ hk => hk.2) (.int .i64 t424)) (fun _ hk => ⟨hk.1.1.1.1, ⟨hk.1.1.2, ⟨hk.1.1.1.2.1, ⟨hk.1.2, hk.1.1.1.2.2.2⟩⟩⟩⟩)⟩, ⟨by (with_reducible repeat (first | refine blk_drewN ?_ _ | refine blk_drew ?_ | refine blk_alloc ?_ _)); refine blk_far ?_ NB372_380.out _; (with_reducible repeat (first | refine blk_drewN ?_ _ | refine blk_drew ?_ | refine blk_alloc ?_ _)); refine blk_far ?_ NB372_380.out _; (with_reducible repeat (first | refine blk_drewN ?_ _ | refine blk_drew ?_ | refine blk_alloc ?_ _)); refine blk_far ?_ NB372_380.out _; (with_reducible repeat (first | refine blk_drewN ?_ _ | refine blk_drew ?_ | refine blk_alloc ?_ _)); refine blk_far ?_ NB372_380.out _; (with_reducible repeat (first | refine blk_drewN ?_ _ | refine blk_drew ?_ | refine blk_alloc ?_ _)); refine blk_far ?_ NB372_380.out _; (with_reducible repeat (first | refine blk_drewN ?_ _ | refine blk_drew ?_ | refine blk_alloc ?_ _)); exact BK372.out⟩, ⟨by (with_reducible repeat (first | refine blk_drewN ?_ _ | refine blk_drew ?_ | refine blk_alloc ?_ _)); refine blk_put (cs := #[.slice Ao103 t418.length co103, .int .i64 t421, .int .i64 t422, .int .i64 t423, .int .i64 x381004_4]) ?_ 4 _ rfl; (with_reducible repeat (first | refine blk_drewN ?_ _ | refine blk_drew ?_ | refine blk_alloc ?_ _)); refine blk_put (cs := #[.slice Ao103 t418.length co103, .int .i64 t421, .int .i64 t422, .int .i64 x381003_4, .int .i64 x381004_4]) ?_ 3 _ rfl; (with_reducible repeat (first | refine blk_drewN ?_ _ | refine blk_drew ?_ | refine blk_alloc ?_ _)); refine blk_put (cs := #[.slice Ao103 t418.length co103, .int .i64 t421, .int .i64 x381002_4, .int .i64 x381003_4, .int .i64 x381004_4]) ?_ 2 _ rfl; (with_reducible repeat (first | refine blk_drewN ?_ _ | refine blk_drew ?_ | refine blk_alloc ?_ _)); refine blk_put (cs := #[.slice Ao103 t418.length co103, .int .i64 x381001_4, .int .i64 x381002_4, .int .i64 x381003_4, .int .i64 x381004_4]) ?_ 1 _ rfl; (with_reducible repeat (first | refine blk_drewN ?_ _ | refine blk_drew ?_ | refine blk_alloc ?_ _)); refine blk_put (cs := #[.slice Ao101 x381000_4.length co101, .int .i64 x381001_4, .int .i64 x381002_4, .int .i64 x381003_4, .int .i64 x381004_4]) ?_ 0 _ rfl; (with_reducible repeat (first | refine blk_drewN ?_ _ | refine blk_drew ?_ | refine blk_alloc ?_ _)); exact BK380.out⟩, ⟨by (with_reducible repeat (first | refine blk_drewN ?_ _ | refine blk_drew ?_ | refine blk_alloc ?_ _)); refine blk_far ?_ NB394_380.out _; (with_reducible repeat (first | refine blk_drewN ?_ _ | refine blk_drew ?_ | refine blk_alloc ?_ _)); refine blk_far ?_ NB394_380.out _; (with_reducible repeat (first | refine blk_drewN ?_ _ | refine blk_drew ?_ | refine blk_alloc ?_ _)); refine blk_far ?_ NB394_380.out _; (with_reducible repeat (first | refine blk_drewN ?_ _ | refine blk_drew ?_ | refine blk_alloc ?_ _)); refine blk_far ?_ NB394_380.out _; (with_reducible repeat (first | refine blk_drewN ?_ _ | refine blk_drew ?_ | refine blk_alloc ?_ _)); refine blk_far ?_ NB394_380.out _; (with_reducible repeat (first | refine blk_drewN ?_ _ | refine blk_drew ?_ | refine blk_alloc ?_ _)); exact BK394.out⟩, ⟨by (with_reducible repeat (first | refine blk_drewN ?_ _ | refine blk_drew ?_ | refine blk_alloc ?_ _)); refine blk_far ?_ NB395_380.out _; (with_reducible repeat (first | refine blk_drewN ?_ _ | refine blk_drew ?_ | refine blk_alloc ?_ _)); refine blk_far ?_ NB395_380.out _; (with_reducible repeat (first | refine blk_drewN ?_ _ | refine blk_drew ?_ | refine blk_alloc ?_ _)); refine blk_far ?_ NB395_380.out _; (with_reducible repeat (first | refine blk_drewN ?_ _ | refine blk_drew ?_ | refine blk_alloc ?_ _)); refine blk_far ?_ NB395_380.out _; (with_reducible repeat (first | refine blk_drewN ?_ _ | refine blk_drew ?_ | refine blk_alloc ?_ _)); refine blk_far ?_ NB395_380.out _; (with_reducible repeat (first | refine blk_drewN ?_ _ | refine blk_drew ?_ | refine blk_alloc ?_ _)); exact BK395.out⟩, ⟨by repeat (first | (with_reducible first | exact HB.out | apply below_alloc | apply pw_below_drewN | apply below_drew1 | refine below_set ?_ GE372.out | refine below_set ?_ GE380.out | refine below_set ?_ GE394.out | refine below_set ?_ GE395.out) | exact HB.out)⟩⟩
                                · rw [if_neg c93] at H
                                  exact absurd H (by simp)
                              · rw [if_neg c92] at H
                                have c92b0 : (t414 == 1) = false := beq_eq_false_iff_ne.mpr c92
                                have c92b1 : (t414 != 1) = true := bne_iff_ne.mpr c92
                                exact absurd ((Option.some.inj H).trans HT_.out) (by decide)
                            · rw [if_neg c90] at H
                              have c90b0 : (x381004_4 == 0) = false := beq_eq_false_iff_ne.mpr c90
                              have c90b1 : (x381004_4 != 0) = true := bne_iff_ne.mpr c90
                              exact absurd ((Option.some.inj H).trans HT_.out) (by decide)
                          · rw [if_neg c89] at H
                            have c89b0 : decide (x16_4 < (wrap64 (3 * (t368.length : Int)))) = false := decide_eq_false c89
                            clear c89
                            have H' := Aside0.mk H
                            clear H
                            go_wp2
                            go_loopg [17] k4 (fun kq v17 w' => ∃ (x17_5 : Int), v17 = .int .i64 x17_5 ∧ Aside0 (laws_FnTurn.l2 kq t368 x15_4 x17_5 = some r) ∧ Aside0 (kq ≤ k4) ∧ Aside0 (Kd.R (Kd.int .i64) 2 w' w.heap.size (fun k_ => some k_ ≠ (u15 : Value).ownBlock ∧ some k_ ≠ ((.slice Ao14 t364.length co14) : Value).ownBlock ∧ some k_ ≠ (u381000 : Value).ownBlock ∧ some k_ ≠ ((.slice Ao32 t387.length co32) : Value).ownBlock ∧ some k_ ≠ ((.slice Ao36 t391.length co36) : Value).ownBlock) (.slice Ao16 t368.length co16) t368) ∧ Aside0 (Kd.R (Kd.int .i64) 2 w' w.heap.size (fun k_ => some k_ ≠ ((.slice Ao16 t368.length co16) : Value).ownBlock ∧ some k_ ≠ ((.slice Ao14 t364.length co14) : Value).ownBlock ∧ some k_ ≠ (u381000 : Value).ownBlock ∧ some k_ ≠ ((.slice Ao32 t387.length co32) : Value).ownBlock ∧ some k_ ≠ ((.slice Ao36 t391.length co36) : Value).ownBlock) u15 x15_4) ∧ Aside0 (Kd.R (Kd.int .i64) 2 w' w.heap.size (fun k_ => some k_ ≠ ((.slice Ao16 t368.length co16) : Value).ownBlock ∧ some k_ ≠ (u15 : Value).ownBlock ∧ some k_ ≠ (u381000 : Value).ownBlock ∧ some k_ ≠ ((.slice Ao32 t387.length co32) : Value).ownBlock ∧ some k_ ≠ ((.slice Ao36 t391.length co36) : Value).ownBlock) (.slice Ao14 t364.length co14) t364) ∧ Aside0 (Kd.R (Kd.int .i64) 2 w' w.heap.size (fun k_ => some k_ ≠ ((.slice Ao16 t368.length co16) : Value).ownBlock ∧ some k_ ≠ (u15 : Value).ownBlock ∧ some k_ ≠ ((.slice Ao14 t364.length co14) : Value).ownBlock ∧ some k_ ≠ ((.slice Ao32 t387.length co32) : Value).ownBlock ∧ some k_ ≠ ((.slice Ao36 t391.length co36) : Value).ownBlock) u381000 x381000_4) ∧ Aside0 (Kd.R (Kd.int .i64) 2 w' w.heap.size (fun k_ => some k_ ≠ ((.slice Ao16 t368.length co16) : Value).ownBlock ∧ some k_ ≠ (u15 : Value).ownBlock ∧ some k_ ≠ ((.slice Ao14 t364.length co14) : Value).ownBlock ∧ some k_ ≠ (u381000 : Value).ownBlock ∧ some k_ ≠ ((.slice Ao36 t391.length co36) : Value).ownBlock) (.slice Ao32 t387.length co32) t387) ∧ Aside0 (Kd.R (Kd.int .i64) 2 w' w.heap.size (fun k_ => some k_ ≠ ((.slice Ao16 t368.length co16) : Value).ownBlock ∧ some k_ ≠ (u15 : Value).ownBlock ∧ some k_ ≠ ((.slice Ao14 t364.length co14) : Value).ownBlock ∧ some k_ ≠ (u381000 : Value).ownBlock ∧ some k_ ≠ ((.slice Ao32 t387.length co32) : Value).ownBlock) (.slice Ao36 t391.length co36) t391) ∧ Aside0 (w'.heap[gb372]? = some (.cells #[(.slice Ao14 t364.length co14), .int .i64 t367] 42 (0, 0))) ∧ Aside0 (w'.heap[gb380]? = some (.cells #[u381000, .int .i64 x381001_4, .int .i64 x381002_4, .int .i64 x381003_4, .int .i64 x381004_4] 46 (0, 0))) ∧ Aside0 (w'.heap[gb394]? = some (.cells #[.int .i64 t386, (.slice Ao32 t387.length co32)] 51 (0, 0))) ∧ Aside0 (w'.heap[gb395]? = some (.cells #[.int .i64 t390, (.slice Ao36 t391.length co36)] 51 (0, 0))) ∧ Aside0 (Below w.heap.size w w'))
                            case atStart => exact ⟨(0), (by first | rfl | (simp; done) | (simp [*]; done)), H', ⟨Nat.le_refl _⟩, ⟨by (with_reducible repeat (first | apply Kd.R_alloc | apply Kd.R_drewN | apply Kd.R_drew)); exact HO_6.out⟩, ⟨by (with_reducible repeat (first | apply Kd.R_alloc | apply Kd.R_drewN | apply Kd.R_drew)); exact HO_15.out⟩, ⟨by (with_reducible repeat (first | apply Kd.R_alloc | apply Kd.R_drewN | apply Kd.R_drew)); exact HO_373000.out⟩, ⟨by (with_reducible repeat (first | apply Kd.R_alloc | apply Kd.R_drewN | apply Kd.R_drew)); exact HO_381000.out⟩, ⟨by (with_reducible repeat (first | apply Kd.R_alloc | apply Kd.R_drewN | apply Kd.R_drew)); exact HO_395001.out⟩, ⟨by (with_reducible repeat (first | apply Kd.R_alloc | apply Kd.R_drewN | apply Kd.R_drew)); exact HO_396001.out⟩, ⟨by (with_reducible repeat (first | refine blk_drewN ?_ _ | refine blk_drew ?_ | refine blk_alloc ?_ _)); exact BK372.out⟩, ⟨by (with_reducible repeat (first | refine blk_drewN ?_ _ | refine blk_drew ?_ | refine blk_alloc ?_ _)); exact BK380.out⟩, ⟨by (with_reducible repeat (first | refine blk_drewN ?_ _ | refine blk_drew ?_ | refine blk_alloc ?_ _)); exact BK394.out⟩, ⟨by (with_reducible repeat (first | refine blk_drewN ?_ _ | refine blk_drew ?_ | refine blk_alloc ?_ _)); exact BK395.out⟩, ⟨by repeat (first | (with_reducible first | exact HB.out | apply below_alloc | apply pw_below_drewN | apply below_drew1 | refine below_set ?_ GE372.out | refine below_set ?_ GE380.out | refine below_set ?_ GE394.out | refine below_set ?_ GE395.out) | exact HB.out)⟩⟩
                            case round =>
                              as_aux_lemma =>
                              clear H'
                              try clear c2
                              try clear p2
                              try clear c3
                              try clear p4
                              try clear q4
                              try clear hx4
                              try clear c6
                              try clear p6
                              try clear c7
                              try clear c8
                              try clear c9
                              try clear c25
                              try clear c29
                              try clear c30
                              try clear c34
                              try clear c39
                              try clear p40
                              try clear q40
                              try clear hx40
                              try clear p64
                              try clear c67
                              try clear c68
                              try clear c68b0
                              try clear c69
                              try clear c69b0
                              try clear c71
                              try clear c71b0
                              try clear c71b1
                              try clear c73
                              try clear c73b0
                              try clear c73b1
                              try clear c74
                              try clear c75
                              try clear c76
                              try clear c79
                              try clear c79b0
                              try clear c79b1
                              try clear c80
                              try clear c81
                              try clear c82
                              try clear c84
                              try clear c85
                              try clear c89
                              try clear c89b0
                              try clear c90
                              try clear c90b0
                              try clear c90b1
                              try clear c92
                              try clear c92b0
                              try clear c92b1
                              try clear c93
                              try clear c95
                              try clear c96
                              try clear c97
                              try clear hcz100_0
                              try clear hcz100_1
                              try clear hcz100_2
                              try clear hcz100_3
                              try clear hcz100_4
                              try clear hcz104_0
                              try clear hcz104_1
                              try clear hcz104_2
                              try clear hcz104_3
                              try clear hcz104_4
                              try clear hcz77_0
                              try clear hcz77_1
                              try clear hcz83_0
                              try clear hcz83_1
                              try clear hcz86_0
                              try clear hcz86_1
                              try clear hcz86_2
                              try clear hcz86_3
                              try clear hcz86_4
                              try clear hcz98_0
                              try clear hcz98_1
                              try clear hcz98_2
                              try clear hcz98_3
                              try clear hcz98_4
                              try clear hfz100_0
                              try clear hfz100_1
                              try clear hfz100_2
                              try clear hfz100_3
                              try clear hfz100_4
                              try clear hfz104_0
                              try clear hfz104_1
                              try clear hfz104_2
                              try clear hfz104_3
                              try clear hfz104_4
                              try clear hfz77_0
                              try clear hfz77_1
                              try clear hfz83_0
                              try clear hfz83_1
                              try clear hfz86_0
                              try clear hfz86_1
                              try clear hfz86_2
                              try clear hfz86_3
                              try clear hfz86_4
                              try clear hfz98_0
                              try clear hfz98_1
                              try clear hfz98_2
                              try clear hfz98_3
                              try clear hfz98_4
                              try clear hx407_0
                              try clear hx409_0
                              try clear p2
                              try clear p4
                              try clear p40
                              try clear p407
                              try clear p409
                              try clear p6
                              try clear p64
                              try clear q4
                              try clear q40
                              try clear q407
                              try clear q409
                              obtain ⟨x17_5, rfl, HA, HK5, HO_6, HO_15, HO_373000, HO_381000, HO_395001, HO_396001, BK372, BK380, BK394, BK395, HB⟩ := hrel
                              cases gk with
                              | zero => exact absurd HA.out (by simp [laws_FnTurn.l2])
                              | succ k5 =>
                                have H := HA.out
                                clear HA
                                simp only [laws_FnTurn.l2] at H
                                by_cases c105 : x17_5 < (t368.length : Int)
                                · rw [if_pos c105] at H
                                  have c105b0 : decide (x17_5 < (t368.length : Int)) = true := decide_eq_true c105
                                  clear c105
                                  by_cases c106 : 0 ≤ x17_5
                                  · rw [if_pos c106] at H
                                    have c106b0 : decide (0 ≤ x17_5) = true := decide_eq_true c106
                                    clear c106
                                    replace H := Option.bind_eq_some_iff.mp H
                                    obtain ⟨t426, A1070, H⟩ := H
                                    replace H : (if t426 < 2 then (some false) else (laws_FnTurn.l2 k5 t368 x15_4 (wrap64 (x17_5 + 1)))) = some r := H
                                    have A107 := Aside0.mk A1070
                                    clear A1070
                                    by_cases c108 : t426 < 2
                                    · rw [if_pos c108] at H
                                      have c108b0 : decide (t426 < 2) = true := decide_eq_true c108
                                      clear c108
                                      exact absurd ((Option.some.inj H).trans HT_.out) (by decide)
                                    · rw [if_neg c108] at H
                                      have c108b0 : decide (t426 < 2) = false := decide_eq_false c108
                                      clear c108
                                      have H' := Aside0.mk H
                                      clear H
                                      have p425 : 0 ≤ (x17_5 : Int) := of_decide_eq_true (by first | (with_reducible assumption) | assumption)
                                      have q425 : x17_5 < (t368.length : Int) := of_decide_eq_true (by first | (with_reducible assumption) | assumption)
                                      obtain ⟨ad425, e425, hx425_0⟩ := Kd.at_int (Kd.R_reads' HO_6.out).2.2 x17_5 p425 q425
                                      cases e425
                                      replace p425 := eq_true p425
                                      replace q425 := eq_true q425
                                      obtain ⟨Ao109, co109, eo109⟩ := Kd.R_slice HO_15.out
                                      subst eo109
                                      go_wp2_with (first | ((with_reducible refine gate_callee (f := 34) rfl ?_); refine goesL_ (some 148) rfl rfl Try.func34 (by kernel_rfl) rfl #[.slice Ao109 x15_4.length co109, .int .i64 (rd t368 x17_5)] rfl (by (try simp only [List.map_toArray, List.map_cons, List.map_nil]); first | done | rfl | (simp only [List.length_drop, List.length_take]; rfl)) ?_; (with_reducible refine (laws_lwMany.calls k5 _ _ x15_4 (rd t368 x17_5) t426 _ ?side1 ?side2 A107.out).mono ?_); (case side1 => repeat (first | exact (Kd.R_reads' HO_15.out).2.2 | (with_reducible refine Kd.C_alloc ?_ _) | (with_reducible refine Kd.C_drewN ?_ _) | (with_reducible refine Kd.C_drew ?_))); (case side2 => exact (Kd.R_reads' HO_15.out).2.1); rintro e w' ⟨rfl, ⟨nd, rfl⟩⟩; refine ⟨_, rfl, ?_⟩))
                                      go_roundg k5
                                      case measure => have := HJ2.out; have := HJ10.out; have := HK3.out; have := HK4.out; have := HK5.out; omega
                                      case rel => exact ⟨(wrap64 (x17_5 + 1)), (by first | rfl | (simp; done) | (simp [*]; done)), H', ⟨by have := HJ2.out; have := HJ10.out; have := HK3.out; have := HK4.out; have := HK5.out; omega⟩, ⟨by (with_reducible repeat (first | apply Kd.R_alloc | apply Kd.R_drewN | apply Kd.R_drew)); exact HO_6.out⟩, ⟨by (with_reducible repeat (first | apply Kd.R_alloc | apply Kd.R_drewN | apply Kd.R_drew)); exact HO_15.out⟩, ⟨by (with_reducible repeat (first | apply Kd.R_alloc | apply Kd.R_drewN | apply Kd.R_drew)); exact HO_373000.out⟩, ⟨by (with_reducible repeat (first | apply Kd.R_alloc | apply Kd.R_drewN | apply Kd.R_drew)); exact HO_381000.out⟩, ⟨by (with_reducible repeat (first | apply Kd.R_alloc | apply Kd.R_drewN | apply Kd.R_drew)); exact HO_395001.out⟩, ⟨by (with_reducible repeat (first | apply Kd.R_alloc | apply Kd.R_drewN | apply Kd.R_drew)); exact HO_396001.out⟩, ⟨by (with_reducible repeat (first | refine blk_drewN ?_ _ | refine blk_drew ?_ | refine blk_alloc ?_ _)); exact BK372.out⟩, ⟨by (with_reducible repeat (first | refine blk_drewN ?_ _ | refine blk_drew ?_ | refine blk_alloc ?_ _)); exact BK380.out⟩, ⟨by (with_reducible repeat (first | refine blk_drewN ?_ _ | refine blk_drew ?_ | refine blk_alloc ?_ _)); exact BK394.out⟩, ⟨by (with_reducible repeat (first | refine blk_drewN ?_ _ | refine blk_drew ?_ | refine blk_alloc ?_ _)); exact BK395.out⟩, ⟨by repeat (first | (with_reducible first | exact HB.out | apply below_alloc | apply pw_below_drewN | apply below_drew1 | refine below_set ?_ GE372.out | refine below_set ?_ GE380.out | refine below_set ?_ GE394.out | refine below_set ?_ GE395.out) | exact HB.out)⟩⟩
                                  · rw [if_neg c106] at H
                                    exact absurd H (by simp)
                                · rw [if_neg c105] at H
                                  have c105b0 : decide (x17_5 < (t368.length : Int)) = false := decide_eq_false c105
                                  clear c105
                                  obtain rfl := Option.some.inj H
                                  go_wp2
                                  go_ret
                                  exact ⟨by first | rfl | (simp [errW_none, errW_some] <;> rfl) | (simp [*, errW_none, errW_some] <;> rfl), by repeat (first | (with_reducible first | exact HB.out | apply below_alloc | apply pw_below_drewN | apply below_drew1 | refine below_set ?_ GE372.out | refine below_set ?_ GE380.out | refine below_set ?_ GE394.out | refine below_set ?_ GE395.out) | exact HB.out)⟩
                    · rw [if_neg c79] at H
                      have c79b0 : (t379 == 0) = false := beq_eq_false_iff_ne.mpr c79
                      have c79b1 : (t379 != 0) = true := bne_iff_ne.mpr c79
                      obtain rfl := Option.some.inj H
                      have hnb110 := NB394_372.out
                      have hnc110 := NB372_394.out
                      have hnb111 := NB394_380.out
                      have hnc111 := NB380_394.out
                      have hnb112 := NB394_395.out
                      have hnc112 := NB395_394.out
                      have hcz113_0 : wr.cell? ⟨gb394, 0, none⟩ = some (.int .i64 t386) := (blk_cell BK394.out 0).trans rfl
                      have hcz113_1 : wr.cell? ⟨gb394, 1, none⟩ = some (.slice Ao32 t387.length co32) := (blk_cell BK394.out 1).trans rfl
                      have hfz113_0 := blk_frozen BK394.out 0
                      have hfz113_1 := blk_frozen BK394.out 1
                      have hnb114 := NB380_372.out
                      have hnc114 := NB372_380.out
                      have hnb115 := NB380_395.out
                      have hnc115 := NB395_380.out
                      have hcz116_0 : wr.cell? ⟨gb380, 0, none⟩ = some (.slice Ao19 t373.length co19) := (blk_cell BK380.out 0).trans rfl
                      have hcz116_1 : wr.cell? ⟨gb380, 1, none⟩ = some (.int .i64 t376) := (blk_cell BK380.out 1).trans rfl
                      have hcz116_2 : wr.cell? ⟨gb380, 2, none⟩ = some (.int .i64 t377) := (blk_cell BK380.out 2).trans rfl
                      have hcz116_3 : wr.cell? ⟨gb380, 3, none⟩ = some (.int .i64 t378) := (blk_cell BK380.out 3).trans rfl
                      have hcz116_4 : wr.cell? ⟨gb380, 4, none⟩ = some (.int .i64 t379) := (blk_cell BK380.out 4).trans rfl
                      have hfz116_0 := blk_frozen BK380.out 0
                      have hfz116_1 := blk_frozen BK380.out 1
                      have hfz116_2 := blk_frozen BK380.out 2
                      have hfz116_3 := blk_frozen BK380.out 3
                      have hfz116_4 := blk_frozen BK380.out 4
                      go_wp2
                      go_ret
                      exact ⟨by first | rfl | (simp [errW_none, errW_some] <;> rfl) | (simp [*, errW_none, errW_some] <;> rfl), by repeat (first | (with_reducible first | exact HB.out | apply below_alloc | apply pw_below_drewN | apply below_drew1 | refine below_set ?_ GE372.out | refine below_set ?_ GE380.out | refine below_set ?_ GE394.out | refine below_set ?_ GE395.out) | exact HB.out)⟩
end Go.Proofs.Ytkgjikjnciihmaa.PFnTurn
