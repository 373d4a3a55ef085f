/- Laid by this session's program pp.py (over the kit's printer) out of the translation: Go functions as Lean functions, and that the calls come to them. -/
import Derived.Test.YtkgjikjnciihmaaPFnSealx0
import Derived.Test.YtkgjikjnciihmaaPFnSealx1
import Derived.Test.YtkgjikjnciihmaaPFnSealx2
namespace Go.Proofs.Ytkgjikjnciihmaa.PFnSeal
open Go.RowKit Go.Proofs.YtkgjikjnciihmaaW.PrintWords Go.Proofs.YtkgjikjnciihmaaW.PrintLast Go.Proofs.YtkgjikjnciihmaaW.PrintMore
attribute [local go_sem] max2_int min2_int max_two min_two max_three min_three max_four min_four   -- for this text's walks alone
set_option linter.unusedVariables false
set_option linter.unusedSimpArgs false

/-! ### spec_DrawCrcMore: function 20 -/
def spec_DrawCrcMore.f (k : Nat) (l0 : List Int) : Option (Int × ByteArray) := (spec_l01Source.f k l0).bind fun bt161 => ((spec_l01Src_n.f bt161.1 bt161.2.1 bt161.2.2.1 bt161.2.2.2 9).bind fun bt166 => ((spec_l01Src_bytes.f k bt161.1 bt166.2.1 bt166.2.2.1 bt166.2.2.2 bt166.1).bind fun bt170 => ((spec_l01Src_one.f bt161.1 bt170.2.1 bt170.2.2.1 bt170.2.2.2 5).bind fun bt174 => (if bt174.1 = true then ((spec_l01Src_edge.f bt161.1 bt174.2.1 bt174.2.2.1 bt174.2.2.2).bind fun bt178 => (some (bt178.1, bt170.1))) else ((spec_l01Src_n.f bt161.1 bt174.2.1 bt174.2.2.1 bt174.2.2.2 9).bind fun bt182 => ((spec_l01Src_bytes.f k bt161.1 bt182.2.1 bt182.2.2.1 bt182.2.2.2 bt182.1).bind fun bt186 => ((spec_Crc.f k bt186.1).bind fun t190 => (some (t190, bt170.1)))))))))
theorem spec_DrawCrcMore.mono : ∀ a0 k, LeO (spec_DrawCrcMore.f k a0) (spec_DrawCrcMore.f (k + 1) a0) := by
  intro a0 k
  unfold spec_DrawCrcMore.f
  repeat' first
      | (with_reducible exact spec_Crc.mono _ _)
      | (with_reducible exact spec_l01Source.mono _ _)
      | (with_reducible exact spec_l01Src_bytes.mono _ _ _ _ _ _)
      | (with_reducible exact LeO.refl _)
      | (with_reducible exact LeO.none _)
      | (with_reducible refine LeO.ite ?_ ?_)
      | (with_reducible refine LeO.bind ?_ (fun _ => ?_))
      | exact spec_Crc.mono _ _
      | exact spec_l01Source.mono _ _
      | exact spec_l01Src_bytes.mono _ _ _ _ _ _
      | exact LeO.none _
      | refine LeO.ite ?_ ?_
      | refine LeO.bind ?_ (fun _ => ?_)
set_option maxHeartbeats 8000000 in
set_option maxRecDepth 100000 in
theorem spec_DrawCrcMore.calls (k : Nat) (A0 : Option Addr) (c0 : Nat) (l0 : List Int) (r1 : Int) (r2 : ByteArray) (w : World) (hr0 : Kd.C (Kd.int .u8) w A0 l0.length l0) (hc0 : l0.length ≤ c0) (h : spec_DrawCrcMore.f k l0 = some (r1, r2)) :
    Calls Try.prog 20 #[.slice A0 l0.length c0] w fun e w' => e = .returned (.tuple #[.int .i64 r1, .string r2]) ∧ Below w.heap.size w w' := by
  have HR0 := Aside0.mk hr0
  have HC0 := Aside0.mk hc0
  clear hr0 hc0
  have HB := Aside0.mk (Below.refl w.heap.size w)
  have H : ((spec_l01Source.f k l0).bind fun bt161 => ((spec_l01Src_n.f bt161.1 bt161.2.1 bt161.2.2.1 bt161.2.2.2 9).bind fun bt166 => ((spec_l01Src_bytes.f k bt161.1 bt166.2.1 bt166.2.2.1 bt166.2.2.2 bt166.1).bind fun bt170 => ((spec_l01Src_one.f bt161.1 bt170.2.1 bt170.2.2.1 bt170.2.2.2 5).bind fun bt174 => (if bt174.1 = true then ((spec_l01Src_edge.f bt161.1 bt174.2.1 bt174.2.2.1 bt174.2.2.2).bind fun bt178 => (some (bt178.1, bt170.1))) else ((spec_l01Src_n.f bt161.1 bt174.2.1 bt174.2.2.1 bt174.2.2.2 9).bind fun bt182 => ((spec_l01Src_bytes.f k bt161.1 bt182.2.1 bt182.2.2.1 bt182.2.2.2 bt182.1).bind fun bt186 => ((spec_Crc.f k bt186.1).bind fun t190 => (some (t190, bt170.1)))))))))) = some (r1, r2) := h
  clear h
  replace H := Option.bind_eq_some_iff.mp H
  obtain ⟨⟨t161, t162, t163, t164⟩, A20, H⟩ := H
  replace H : ((spec_l01Src_n.f t161 t162 t163 t164 9).bind fun bt166 => ((spec_l01Src_bytes.f k t161 bt166.2.1 bt166.2.2.1 bt166.2.2.2 bt166.1).bind fun bt170 => ((spec_l01Src_one.f t161 bt170.2.1 bt170.2.2.1 bt170.2.2.2 5).bind fun bt174 => (if bt174.1 = true then ((spec_l01Src_edge.f t161 bt174.2.1 bt174.2.2.1 bt174.2.2.2).bind fun bt178 => (some (bt178.1, bt170.1))) else ((spec_l01Src_n.f t161 bt174.2.1 bt174.2.2.1 bt174.2.2.2 9).bind fun bt182 => ((spec_l01Src_bytes.f k t161 bt182.2.1 bt182.2.2.1 bt182.2.2.2 bt182.1).bind fun bt186 => ((spec_Crc.f k bt186.1).bind fun t190 => (some (t190, bt170.1))))))))) = some (r1, r2) := H
  have A2 := Aside0.mk A20
  clear A20
  replace H := Option.bind_eq_some_iff.mp H
  obtain ⟨⟨t166, t167, t168, t169⟩, A30, H⟩ := H
  replace H : ((spec_l01Src_bytes.f k t161 t167 t168 t169 t166).bind fun bt170 => ((spec_l01Src_one.f t161 bt170.2.1 bt170.2.2.1 bt170.2.2.2 5).bind fun bt174 => (if bt174.1 = true then ((spec_l01Src_edge.f t161 bt174.2.1 bt174.2.2.1 bt174.2.2.2).bind fun bt178 => (some (bt178.1, bt170.1))) else ((spec_l01Src_n.f t161 bt174.2.1 bt174.2.2.1 bt174.2.2.2 9).bind fun bt182 => ((spec_l01Src_bytes.f k t161 bt182.2.1 bt182.2.2.1 bt182.2.2.2 bt182.1).bind fun bt186 => ((spec_Crc.f k bt186.1).bind fun t190 => (some (t190, bt170.1)))))))) = some (r1, r2) := H
  have A3 := Aside0.mk A30
  clear A30
  replace H := Option.bind_eq_some_iff.mp H
  obtain ⟨⟨t170, t171, t172, t173⟩, A40, H⟩ := H
  replace H : ((spec_l01Src_one.f t161 t171 t172 t173 5).bind fun bt174 => (if bt174.1 = true then ((spec_l01Src_edge.f t161 bt174.2.1 bt174.2.2.1 bt174.2.2.2).bind fun bt178 => (some (bt178.1, t170))) else ((spec_l01Src_n.f t161 bt174.2.1 bt174.2.2.1 bt174.2.2.2 9).bind fun bt182 => ((spec_l01Src_bytes.f k t161 bt182.2.1 bt182.2.2.1 bt182.2.2.2 bt182.1).bind fun bt186 => ((spec_Crc.f k bt186.1).bind fun t190 => (some (t190, t170))))))) = some (r1, r2) := H
  have A4 := Aside0.mk A40
  clear A40
  replace H := Option.bind_eq_some_iff.mp H
  obtain ⟨⟨t174, t175, t176, t177⟩, A50, H⟩ := H
  replace H : (if t174 = true then ((spec_l01Src_edge.f t161 t175 t176 t177).bind fun bt178 => (some (bt178.1, t170))) else ((spec_l01Src_n.f t161 t175 t176 t177 9).bind fun bt182 => ((spec_l01Src_bytes.f k t161 bt182.2.1 bt182.2.2.1 bt182.2.2.2 bt182.1).bind fun bt186 => ((spec_Crc.f k bt186.1).bind fun t190 => (some (t190, t170)))))) = some (r1, r2) := H
  have A5 := Aside0.mk A50
  clear A50
  by_cases c6 : t174 = true
  · subst c6
    have H1 : ((spec_l01Src_edge.f t161 t175 t176 t177).bind fun bt178 => (some (bt178.1, t170))) = some (r1, r2) := by rw [if_pos rfl] at H; exact H
    clear H
    have H := H1
    clear H1
    replace H := Option.bind_eq_some_iff.mp H
    obtain ⟨⟨t178, t179, t180, t181⟩, A70, H⟩ := H
    replace H : (some (t178, t170)) = some (r1, r2) := H
    have A7 := Aside0.mk A70
    clear A70
    simp only [Option.some.injEq, Prod.mk.injEq] at H
    obtain ⟨rfl, rfl⟩ := H
    go_enter Try.func20, Try.ntmps20
    go_wp2_with (first | ((with_reducible refine gate_callee (f := 50) rfl ?_); refine goesL_ (some 7) rfl rfl Try.func50 (by kernel_rfl) rfl #[.slice A0 l0.length c0] rfl (by (try simp only [List.map_toArray, List.map_cons, List.map_nil]); first | done | rfl | (simp only [List.length_drop, List.length_take]; rfl)) ?_; (with_reducible refine (spec_l01Source.calls k _ _ l0 t161 t162 t163 t164 w _ ?side1 ?side2 ?side3 A2.out).mono ?_); (case side1 => repeat (first | (with_reducible first | exact HB.out | apply below_alloc | apply pw_below_drewN | apply below_drew1) | exact HB.out)); (case side2 => exact HR0.out); (case side3 => exact HC0.out); rintro e w8 ⟨g165, rfl, hi, hb, hb2⟩; refine ⟨_, rfl, ?_⟩; have n0_ := Aside0.mk (hb); have n1_ := Aside0.mk (hi); clear HB; have HB := n0_; have HI165 := n1_; clear n0_ n1_; (try clear hb); (try clear hb2); (try clear hk); (try clear hi)) | ((with_reducible refine gate_callee (f := 55) rfl ?_); refine goesL_ (some 10) rfl rfl Try.func55 (by kernel_rfl) rfl #[.pointer (some ⟨g165, 0, none⟩), .int .i64 9] rfl (by (try simp only [List.map_toArray, List.map_cons, List.map_nil]); first | done | rfl | (simp only [List.length_drop, List.length_take]; rfl)) ?_; (with_reducible refine (spec_l01Src_n.calls g165 t161 t162 t163 t164 9 t166 t167 t168 t169 w _ ?side1 ?side2 A3.out).mono ?_); (case side1 => repeat (first | (with_reducible first | exact HI165.out | apply IsS89.alloc | apply IsS89.drewN | apply IsS89.drew | apply IsS89.set_1 | apply IsS89.set_2 | apply IsS89.set_3) | exact HI165.out)); (case side2 => repeat (first | (with_reducible first | exact HB.out | apply below_alloc | apply pw_below_drewN | apply below_drew1 | refine below_set ?_ (IsS89.ge HI165.out)) | exact HB.out)); rintro e w9 ⟨rfl, hi, hb, hk⟩; refine ⟨_, rfl, ?_⟩; have n0_ := Aside0.mk (hb); have n1_ := Aside0.mk (hi); clear HB; clear HI165; have HB := n0_; have HI165 := n1_; clear n0_ n1_; (try clear hb); (try clear hb2); (try clear hk); (try clear hi)) | ((with_reducible refine gate_callee (f := 56) rfl ?_); refine goesL_ (some 11) rfl rfl Try.func56 (by kernel_rfl) rfl #[.pointer (some ⟨g165, 0, none⟩), .int .i64 t166] rfl (by (try simp only [List.map_toArray, List.map_cons, List.map_nil]); first | done | rfl | (simp only [List.length_drop, List.length_take]; rfl)) ?_; (with_reducible refine (spec_l01Src_bytes.calls k g165 t161 t167 t168 t169 t166 t170 t171 t172 t173 w _ ?side1 ?side2 A4.out).mono ?_); (case side1 => repeat (first | (with_reducible first | exact HI165.out | apply IsS89.alloc | apply IsS89.drewN | apply IsS89.drew | apply IsS89.set_1 | apply IsS89.set_2 | apply IsS89.set_3) | exact HI165.out)); (case side2 => repeat (first | (with_reducible first | exact HB.out | apply below_alloc | apply pw_below_drewN | apply below_drew1 | refine below_set ?_ (IsS89.ge HI165.out)) | exact HB.out)); rintro e w10 ⟨rfl, hi, hb, hk⟩; refine ⟨_, rfl, ?_⟩; have n0_ := Aside0.mk (hb); have n1_ := Aside0.mk (hi); clear HB; clear HI165; have HB := n0_; have HI165 := n1_; clear n0_ n1_; (try clear hb); (try clear hb2); (try clear hk); (try clear hi)) | ((with_reducible refine gate_callee (f := 54) rfl ?_); refine goesL_ (some 13) rfl rfl Try.func54 (by kernel_rfl) rfl #[.pointer (some ⟨g165, 0, none⟩), .int .i64 5] rfl (by (try simp only [List.map_toArray, List.map_cons, List.map_nil]); first | done | rfl | (simp only [List.length_drop, List.length_take]; rfl)) ?_; (with_reducible refine (spec_l01Src_one.calls g165 t161 t171 t172 t173 5 true t175 t176 t177 w _ ?side1 ?side2 A5.out).mono ?_); (case side1 => repeat (first | (with_reducible first | exact HI165.out | apply IsS89.alloc | apply IsS89.drewN | apply IsS89.drew | apply IsS89.set_1 | apply IsS89.set_2 | apply IsS89.set_3) | exact HI165.out)); (case side2 => repeat (first | (with_reducible first | exact HB.out | apply below_alloc | apply pw_below_drewN | apply below_drew1 | refine below_set ?_ (IsS89.ge HI165.out)) | exact HB.out)); rintro e w11 ⟨rfl, hi, hb, hk⟩; refine ⟨_, rfl, ?_⟩; have n0_ := Aside0.mk (hb); have n1_ := Aside0.mk (hi); clear HB; clear HI165; have HB := n0_; have HI165 := n1_; clear n0_ n1_; (try clear hb); (try clear hb2); (try clear hk); (try clear hi)) | ((with_reducible refine gate_callee (f := 60) rfl ?_); refine goesL_ (some 15) rfl rfl Try.func60 (by kernel_rfl) rfl #[.pointer (some ⟨g165, 0, none⟩)] rfl (by (try simp only [List.map_toArray, List.map_cons, List.map_nil]); first | done | rfl | (simp only [List.length_drop, List.length_take]; rfl)) ?_; (with_reducible refine (spec_l01Src_edge.calls g165 t161 t175 t176 t177 t178 t179 t180 t181 w _ ?side1 ?side2 A7.out).mono ?_); (case side1 => repeat (first | (with_reducible first | exact HI165.out | apply IsS89.alloc | apply IsS89.drewN | apply IsS89.drew | apply IsS89.set_1 | apply IsS89.set_2 | apply IsS89.set_3) | exact HI165.out)); (case side2 => repeat (first | (with_reducible first | exact HB.out | apply below_alloc | apply pw_below_drewN | apply below_drew1 | refine below_set ?_ (IsS89.ge HI165.out)) | exact HB.out)); rintro e w12 ⟨rfl, hi, hb, hk⟩; refine ⟨_, rfl, ?_⟩; have n0_ := Aside0.mk (hb); have n1_ := Aside0.mk (hi); clear HB; clear HI165; have HB := n0_; have HI165 := n1_; clear n0_ n1_; (try clear hb); (try clear hb2); (try clear hk); (try clear hi)))
    go_ret2
    exact ⟨by first | rfl | (simp [errW_none, errW_some] <;> rfl) | (simp [*, errW_none, errW_some] <;> rfl), by repeat (first | (with_reducible first | exact HB.out | apply below_alloc | apply pw_below_drewN | apply below_drew1 | refine below_set ?_ (IsS89.ge HI165.out)) | exact HB.out)⟩
  · replace c6 := Bool.eq_false_iff.mpr c6
    subst c6
    have H1 : ((spec_l01Src_n.f t161 t175 t176 t177 9).bind fun bt182 => ((spec_l01Src_bytes.f k t161 bt182.2.1 bt182.2.2.1 bt182.2.2.2 bt182.1).bind fun bt186 => ((spec_Crc.f k bt186.1).bind fun t190 => (some (t190, t170))))) = some (r1, r2) := by rw [if_neg (show ¬ (false = true) by decide)] at H; exact H
    clear H
    have H := H1
    clear H1
    replace H := Option.bind_eq_some_iff.mp H
    obtain ⟨⟨t182, t183, t184, t185⟩, A130, H⟩ := H
    replace H : ((spec_l01Src_bytes.f k t161 t183 t184 t185 t182).bind fun bt186 => ((spec_Crc.f k bt186.1).bind fun t190 => (some (t190, t170)))) = some (r1, r2) := H
    have A13 := Aside0.mk A130
    clear A130
    replace H := Option.bind_eq_some_iff.mp H
    obtain ⟨⟨t186, t187, t188, t189⟩, A140, H⟩ := H
    replace H : ((spec_Crc.f k t186).bind fun t190 => (some (t190, t170))) = some (r1, r2) := H
    have A14 := Aside0.mk A140
    clear A140
    replace H := Option.bind_eq_some_iff.mp H
    obtain ⟨t190, A150, H⟩ := H
    replace H : (some (t190, t170)) = some (r1, r2) := H
    have A15 := Aside0.mk A150
    clear A150
    simp only [Option.some.injEq, Prod.mk.injEq] at H
    obtain ⟨rfl, rfl⟩ := H
    go_enter Try.func20, Try.ntmps20
    go_wp2_with (first | ((with_reducible refine gate_callee (f := 50) rfl ?_); refine goesL_ (some 7) rfl rfl Try.func50 (by kernel_rfl) rfl #[.slice A0 l0.length c0] rfl (by (try simp only [List.map_toArray, List.map_cons, List.map_nil]); first | done | rfl | (simp only [List.length_drop, List.length_take]; rfl)) ?_; (with_reducible refine (spec_l01Source.calls k _ _ l0 t161 t162 t163 t164 w _ ?side1 ?side2 ?side3 A2.out).mono ?_); (case side1 => repeat (first | (with_reducible first | exact HB.out | apply below_alloc | apply pw_below_drewN | apply below_drew1) | exact HB.out)); (case side2 => exact HR0.out); (case side3 => exact HC0.out); rintro e w16 ⟨g165, rfl, hi, hb, hb2⟩; refine ⟨_, rfl, ?_⟩; have n0_ := Aside0.mk (hb); have n1_ := Aside0.mk (hi); clear HB; have HB := n0_; have HI165 := n1_; clear n0_ n1_; (try clear hb); (try clear hb2); (try clear hk); (try clear hi)) | ((with_reducible refine gate_callee (f := 55) rfl ?_); refine goesL_ (some 10) rfl rfl Try.func55 (by kernel_rfl) rfl #[.pointer (some ⟨g165, 0, none⟩), .int .i64 9] rfl (by (try simp only [List.map_toArray, List.map_cons, List.map_nil]); first | done | rfl | (simp only [List.length_drop, List.length_take]; rfl)) ?_; (with_reducible refine (spec_l01Src_n.calls g165 t161 t162 t163 t164 9 t166 t167 t168 t169 w _ ?side1 ?side2 A3.out).mono ?_); (case side1 => repeat (first | (with_reducible first | exact HI165.out | apply IsS89.alloc | apply IsS89.drewN | apply IsS89.drew | apply IsS89.set_1 | apply IsS89.set_2 | apply IsS89.set_3) | exact HI165.out)); (case side2 => repeat (first | (with_reducible first | exact HB.out | apply below_alloc | apply pw_below_drewN | apply below_drew1 | refine below_set ?_ (IsS89.ge HI165.out)) | exact HB.out)); rintro e w17 ⟨rfl, hi, hb, hk⟩; refine ⟨_, rfl, ?_⟩; have n0_ := Aside0.mk (hb); have n1_ := Aside0.mk (hi); clear HB; clear HI165; have HB := n0_; have HI165 := n1_; clear n0_ n1_; (try clear hb); (try clear hb2); (try clear hk); (try clear hi)) | ((with_reducible refine gate_callee (f := 56) rfl ?_); refine goesL_ (some 11) rfl rfl Try.func56 (by kernel_rfl) rfl #[.pointer (some ⟨g165, 0, none⟩), .int .i64 t166] rfl (by (try simp only [List.map_toArray, List.map_cons, List.map_nil]); first | done | rfl | (simp only [List.length_drop, List.length_take]; rfl)) ?_; (with_reducible refine (spec_l01Src_bytes.calls k g165 t161 t167 t168 t169 t166 t170 t171 t172 t173 w _ ?side1 ?side2 A4.out).mono ?_); (case side1 => repeat (first | (with_reducible first | exact HI165.out | apply IsS89.alloc | apply IsS89.drewN | apply IsS89.drew | apply IsS89.set_1 | apply IsS89.set_2 | apply IsS89.set_3) | exact HI165.out)); (case side2 => repeat (first | (with_reducible first | exact HB.out | apply below_alloc | apply pw_below_drewN | apply below_drew1 | refine below_set ?_ (IsS89.ge HI165.out)) | exact HB.out)); rintro e w18 ⟨rfl, hi, hb, hk⟩; refine ⟨_, rfl, ?_⟩; have n0_ := Aside0.mk (hb); have n1_ := Aside0.mk (hi); clear HB; clear HI165; have HB := n0_; have HI165 := n1_; clear n0_ n1_; (try clear hb); (try clear hb2); (try clear hk); (try clear hi)) | ((with_reducible refine gate_callee (f := 54) rfl ?_); refine goesL_ (some 13) rfl rfl Try.func54 (by kernel_rfl) rfl #[.pointer (some ⟨g165, 0, none⟩), .int .i64 5] rfl (by (try simp only [List.map_toArray, List.map_cons, List.map_nil]); first | done | rfl | (simp only [List.length_drop, List.length_take]; rfl)) ?_; (with_reducible refine (spec_l01Src_one.calls g165 t161 t171 t172 t173 5 false t175 t176 t177 w _ ?side1 ?side2 A5.out).mono ?_); (case side1 => repeat (first | (with_reducible first | exact HI165.out | apply IsS89.alloc | apply IsS89.drewN | apply IsS89.drew | apply IsS89.set_1 | apply IsS89.set_2 | apply IsS89.set_3) | exact HI165.out)); (case side2 => repeat (first | (with_reducible first | exact HB.out | apply below_alloc | apply pw_below_drewN | apply below_drew1 | refine below_set ?_ (IsS89.ge HI165.out)) | exact HB.out)); rintro e w19 ⟨rfl, hi, hb, hk⟩; refine ⟨_, rfl, ?_⟩; have n0_ := Aside0.mk (hb); have n1_ := Aside0.mk (hi); clear HB; clear HI165; have HB := n0_; have HI165 := n1_; clear n0_ n1_; (try clear hb); (try clear hb2); (try clear hk); (try clear hi)) | ((with_reducible refine gate_callee (f := 55) rfl ?_); refine goesL_ (some 19) rfl rfl Try.func55 (by kernel_rfl) rfl #[.pointer (some ⟨g165, 0, none⟩), .int .i64 9] rfl (by (try simp only [List.map_toArray, List.map_cons, List.map_nil]); first | done | rfl | (simp only [List.length_drop, List.length_take]; rfl)) ?_; (with_reducible refine (spec_l01Src_n.calls g165 t161 t175 t176 t177 9 t182 t183 t184 t185 w _ ?side1 ?side2 A13.out).mono ?_); (case side1 => repeat (first | (with_reducible first | exact HI165.out | apply IsS89.alloc | apply IsS89.drewN | apply IsS89.drew | apply IsS89.set_1 | apply IsS89.set_2 | apply IsS89.set_3) | exact HI165.out)); (case side2 => repeat (first | (with_reducible first | exact HB.out | apply below_alloc | apply pw_below_drewN | apply below_drew1 | refine below_set ?_ (IsS89.ge HI165.out)) | exact HB.out)); rintro e w20 ⟨rfl, hi, hb, hk⟩; refine ⟨_, rfl, ?_⟩; have n0_ := Aside0.mk (hb); have n1_ := Aside0.mk (hi); clear HB; clear HI165; have HB := n0_; have HI165 := n1_; clear n0_ n1_; (try clear hb); (try clear hb2); (try clear hk); (try clear hi)) | ((with_reducible refine gate_callee (f := 56) rfl ?_); refine goesL_ (some 20) rfl rfl Try.func56 (by kernel_rfl) rfl #[.pointer (some ⟨g165, 0, none⟩), .int .i64 t182] rfl (by (try simp only [List.map_toArray, List.map_cons, List.map_nil]); first | done | rfl | (simp only [List.length_drop, List.length_take]; rfl)) ?_; (with_reducible refine (spec_l01Src_bytes.calls k g165 t161 t183 t184 t185 t182 t186 t187 t188 t189 w _ ?side1 ?side2 A14.out).mono ?_); (case side1 => repeat (first | (with_reducible first | exact HI165.out | apply IsS89.alloc | apply IsS89.drewN | apply IsS89.drew | apply IsS89.set_1 | apply IsS89.set_2 | apply IsS89.set_3) | exact HI165.out)); (case side2 => repeat (first | (with_reducible first | exact HB.out | apply below_alloc | apply pw_below_drewN | apply below_drew1 | refine below_set ?_ (IsS89.ge HI165.out)) | exact HB.out)); rintro e w21 ⟨rfl, hi, hb, hk⟩; refine ⟨_, rfl, ?_⟩; have n0_ := Aside0.mk (hb); have n1_ := Aside0.mk (hi); clear HB; clear HI165; have HB := n0_; have HI165 := n1_; clear n0_ n1_; (try clear hb); (try clear hb2); (try clear hk); (try clear hi)) | ((with_reducible refine gate_callee (f := 61) rfl ?_); refine goesL_ (some 21) rfl rfl Try.func61 (by kernel_rfl) rfl #[.string t186] rfl (by (try simp only [List.map_toArray, List.map_cons, List.map_nil]); first | done | rfl | (simp only [List.length_drop, List.length_take]; rfl)) ?_; (with_reducible refine (spec_Crc.calls k t186 t190 _ A15.out).mono ?_); rintro e w' ⟨rfl, ⟨nd, rfl⟩⟩; refine ⟨_, rfl, ?_⟩))
    go_ret2
    exact ⟨by first | rfl | (simp [errW_none, errW_some] <;> rfl) | (simp [*, errW_none, errW_some] <;> rfl), by repeat (first | (with_reducible first | exact HB.out | apply below_alloc | apply pw_below_drewN | apply below_drew1 | refine below_set ?_ (IsS89.ge HI165.out)) | exact HB.out)⟩

/-! ### bits_Len64: function 62, by a template -/
def bits_Len64.f (a0 : Int) : Option (Int) := if 0 ≤ a0 then (if a0 ≤ 18446744073709551615 then some (Go.Lib.bitLen a0.toNat : Int) else none) else none
theorem bits_Len64.fin0 {l : Nat} (hl : l ≤ 8) : wrap64 (l : Int) = (l : Int) := by unfold wrap64; omega
theorem bits_Len64.fin (n : Nat) {l b : Nat} (h1 : n ≤ 56) (hl : l ≤ 8) (hb : b = n + l) : wrap64 ((n : Int) + wrap64 (l : Int)) = (b : Int) := by rw [bits_Len64.fin0 hl]; unfold wrap64; omega
theorem bits_Len64.tab : ∀ m : Fin 256, ∀ h : m.val < Go.Lib.len8tab.size, (Go.Lib.len8tab[m.val]'h).toNat = Go.Lib.bitLen m.val := by decide +kernel
set_option maxHeartbeats 8000000 in
set_option maxRecDepth 100000 in
theorem bits_Len64.calls (a0 : Int) (r : Int) (w : World) (h : bits_Len64.f a0 = some r) :
    Calls Try.prog 62 #[.int .u64 a0] w fun e w' => e = .returned (.int .i64 r) ∧ Drawn0 w w' := by
  unfold bits_Len64.f at h
  by_cases h0 : 0 ≤ a0
  · rw [if_pos h0] at h
    by_cases h1 : a0 ≤ 18446744073709551615
    · rw [if_pos h1] at h
      obtain rfl := Option.some.inj h
      clear h
      have hsz_ : Go.Lib.len8tab.size = 256 := by decide +kernel
      have tab_ : ∀ m : Nat, m < 256 → ∀ {h : m < Go.Lib.len8tab.size}, ((Go.Lib.len8tab[m]'h).toNat : Int) = (Go.Lib.bitLen m : Int) := fun m hm h => congrArg Nat.cast (bits_Len64.tab ⟨m, hm⟩ h)
      have HS := Aside0.mk hsz_
      have HT := Aside0.mk tab_
      clear hsz_ tab_
      go_enter Try.func62, Try.ntmps62
      go_wp2
      all_goals (have hsz_ := HS.out; have tab_ := HT.out)
      all_goals first
        | (exfalso; omega)
        | (go_ret; refine ⟨congrArg Ending.returned (congrArg (Value.int IntKind.i64) ?_), Drawn0.refl _⟩; first | (have e_ : (a0 / 4294967296 / 65536 / 256).toNat = a0.toNat / 72057594037927936 := (by omega); rw [tab_ (a0 / 4294967296 / 65536 / 256).toNat (by omega)]; have l_ := Go.Lib.bitLen_le8' (a0 / 4294967296 / 65536 / 256) (by omega) (by omega); have s_ := Go.Lib.bitLen_shift56 a0.toNat (by omega) (by omega); rw [e_] at l_ ⊢; exact bits_Len64.fin 56 (by decide) l_ s_) | (have e_ : (a0 / 4294967296 / 65536).toNat = a0.toNat / 281474976710656 := (by omega); rw [tab_ (a0 / 4294967296 / 65536).toNat (by omega)]; have l_ := Go.Lib.bitLen_le8' (a0 / 4294967296 / 65536) (by omega) (by omega); have s_ := Go.Lib.bitLen_shift48 a0.toNat (by omega) (by omega); rw [e_] at l_ ⊢; exact bits_Len64.fin 48 (by decide) l_ s_) | (have e_ : (a0 / 4294967296 / 256).toNat = a0.toNat / 1099511627776 := (by omega); rw [tab_ (a0 / 4294967296 / 256).toNat (by omega)]; have l_ := Go.Lib.bitLen_le8' (a0 / 4294967296 / 256) (by omega) (by omega); have s_ := Go.Lib.bitLen_shift40 a0.toNat (by omega) (by omega); rw [e_] at l_ ⊢; exact bits_Len64.fin 40 (by decide) l_ s_) | (have e_ : (a0 / 4294967296).toNat = a0.toNat / 4294967296 := (by omega); rw [tab_ (a0 / 4294967296).toNat (by omega)]; have l_ := Go.Lib.bitLen_le8' (a0 / 4294967296) (by omega) (by omega); have s_ := Go.Lib.bitLen_shift32 a0.toNat (by omega) (by omega); rw [e_] at l_ ⊢; exact bits_Len64.fin 32 (by decide) l_ s_) | (have e_ : (a0 / 65536 / 256).toNat = a0.toNat / 16777216 := (by omega); rw [tab_ (a0 / 65536 / 256).toNat (by omega)]; have l_ := Go.Lib.bitLen_le8' (a0 / 65536 / 256) (by omega) (by omega); have s_ := Go.Lib.bitLen_shift24 a0.toNat (by omega) (by omega); rw [e_] at l_ ⊢; exact bits_Len64.fin 24 (by decide) l_ s_) | (have e_ : (a0 / 65536).toNat = a0.toNat / 65536 := (by omega); rw [tab_ (a0 / 65536).toNat (by omega)]; have l_ := Go.Lib.bitLen_le8' (a0 / 65536) (by omega) (by omega); have s_ := Go.Lib.bitLen_shift16 a0.toNat (by omega) (by omega); rw [e_] at l_ ⊢; exact bits_Len64.fin 16 (by decide) l_ s_) | (have e_ : (a0 / 256).toNat = a0.toNat / 256 := (by omega); rw [tab_ (a0 / 256).toNat (by omega)]; have l_ := Go.Lib.bitLen_le8' (a0 / 256) (by omega) (by omega); have s_ := Go.Lib.bitLen_shift8 a0.toNat (by omega) (by omega); rw [e_] at l_ ⊢; exact bits_Len64.fin 8 (by decide) l_ s_) | (have e_ : (a0).toNat = a0.toNat := (by omega); rw [tab_ (a0).toNat (by omega)]; have l_ := Go.Lib.bitLen_le8' (a0) (by omega) (by omega); rw [e_] at l_ ⊢; simp only [Int.zero_add, bits_Len64.fin0 l_]))
    · rw [if_neg h1] at h; exact absurd h (by simp)
  · rw [if_neg h0] at h; exact absurd h (by simp)

/-! ### impl_CrcMore: function 21 -/
def impl_CrcMore.f (k : Nat) (a0 : Int) (a1 : ByteArray) : Option (Int) := (impl_longText.f a1).bind fun t191 => (if t191 = true then (some 0) else (if a0 < 0 then (some 0) else ((bits_Len64.f (IntKind.u64.wrap (a0))).bind fun t192 => (if t192 > 32 then (some 0) else ((impl_crcMore.f k (Go.bits .xor .u32 4294967295 ((a0) % 4294967296)) a1).bind fun t193 => (some (wrap64 (Go.bits .xor .u32 4294967295 t193))))))))
theorem impl_CrcMore.mono : ∀ a0 a1 k, LeO (impl_CrcMore.f k a0 a1) (impl_CrcMore.f (k + 1) a0 a1) := by
  intro a0 a1 k
  unfold impl_CrcMore.f
  repeat' first
      | (with_reducible exact impl_crcMore.mono _ _ _)
      | (with_reducible exact LeO.refl _)
      | (with_reducible exact LeO.none _)
      | (with_reducible refine LeO.ite ?_ ?_)
      | (with_reducible refine LeO.bind ?_ (fun _ => ?_))
      | exact impl_crcMore.mono _ _ _
      | exact LeO.none _
      | refine LeO.ite ?_ ?_
      | refine LeO.bind ?_ (fun _ => ?_)
set_option maxHeartbeats 8000000 in
set_option maxRecDepth 100000 in
theorem impl_CrcMore.calls (k : Nat) (a0 : Int) (a1 : ByteArray) (r : Int) (w : World) (h : impl_CrcMore.f k a0 a1 = some r) :
    Calls Try.prog 21 #[.int .i64 a0, .string a1] w fun e w' => e = .returned (.int .i64 r) ∧ Drawn0 w w' := by
  have H : ((impl_longText.f a1).bind fun t191 => (if t191 = true then (some 0) else (if a0 < 0 then (some 0) else ((bits_Len64.f (IntKind.u64.wrap (a0))).bind fun t192 => (if t192 > 32 then (some 0) else ((impl_crcMore.f k (Go.bits .xor .u32 4294967295 ((a0) % 4294967296)) a1).bind fun t193 => (some (wrap64 (Go.bits .xor .u32 4294967295 t193))))))))) = some r := h
  clear h
  replace H := Option.bind_eq_some_iff.mp H
  obtain ⟨t191, A30, H⟩ := H
  replace H : (if t191 = true then (some 0) else (if a0 < 0 then (some 0) else ((bits_Len64.f (IntKind.u64.wrap (a0))).bind fun t192 => (if t192 > 32 then (some 0) else ((impl_crcMore.f k (Go.bits .xor .u32 4294967295 ((a0) % 4294967296)) a1).bind fun t193 => (some (wrap64 (Go.bits .xor .u32 4294967295 t193)))))))) = some r := H
  have A3 := Aside0.mk A30
  clear A30
  by_cases c4 : t191 = true
  · subst c4
    have H1 : (some 0) = some r := by rw [if_pos rfl] at H; exact H
    clear H
    have H := H1
    clear H1
    obtain rfl := Option.some.inj H
    go_enter Try.func21, Try.ntmps21
    go_wp2_with (first | ((with_reducible refine gate_callee (f := 53) rfl ?_); refine goesL_ (some 6) rfl rfl Try.func53 (by kernel_rfl) rfl #[.string a1] rfl (by (try simp only [List.map_toArray, List.map_cons, List.map_nil]); first | done | rfl | (simp only [List.length_drop, List.length_take]; rfl)) ?_; (with_reducible refine (impl_longText.calls a1 true _ A3.out).mono ?_); rintro e w' ⟨rfl, ⟨nd, rfl⟩⟩; refine ⟨_, rfl, ?_⟩))
    go_ret
    exact ⟨by first | rfl | (simp; done) | (simp [*]; done), by repeat (first | exact Drawn0.refl _ | apply Drawn0.step)⟩
  · replace c4 := Bool.eq_false_iff.mpr c4
    subst c4
    have H1 : (if a0 < 0 then (some 0) else ((bits_Len64.f (IntKind.u64.wrap (a0))).bind fun t192 => (if t192 > 32 then (some 0) else ((impl_crcMore.f k (Go.bits .xor .u32 4294967295 ((a0) % 4294967296)) a1).bind fun t193 => (some (wrap64 (Go.bits .xor .u32 4294967295 t193))))))) = some r := by rw [if_neg (show ¬ (false = true) by decide)] at H; exact H
    clear H
    have H := H1
    clear H1
    by_cases c5 : a0 < 0
    · rw [if_pos c5] at H
      have c5b0 : decide (a0 < 0) = true := decide_eq_true c5
      clear c5
      obtain rfl := Option.some.inj H
      go_enter Try.func21, Try.ntmps21
      go_wp2_with (first | ((with_reducible refine gate_callee (f := 53) rfl ?_); refine goesL_ (some 6) rfl rfl Try.func53 (by kernel_rfl) rfl #[.string a1] rfl (by (try simp only [List.map_toArray, List.map_cons, List.map_nil]); first | done | rfl | (simp only [List.length_drop, List.length_take]; rfl)) ?_; (with_reducible refine (impl_longText.calls a1 false _ A3.out).mono ?_); rintro e w' ⟨rfl, ⟨nd, rfl⟩⟩; refine ⟨_, rfl, ?_⟩))
      go_ret
      exact ⟨by first | rfl | (simp; done) | (simp [*]; done), by repeat (first | exact Drawn0.refl _ | apply Drawn0.step)⟩
    · rw [if_neg c5] at H
      have c5b0 : decide (a0 < 0) = false := decide_eq_false c5
      clear c5
      replace H := Option.bind_eq_some_iff.mp H
      obtain ⟨t192, A60, H⟩ := H
      replace H : (if t192 > 32 then (some 0) else ((impl_crcMore.f k (Go.bits .xor .u32 4294967295 ((a0) % 4294967296)) a1).bind fun t193 => (some (wrap64 (Go.bits .xor .u32 4294967295 t193))))) = some r := H
      have A6 := Aside0.mk A60
      clear A60
      by_cases c7 : t192 > 32
      · rw [if_pos c7] at H
        have c7b0 : decide (32 < t192) = true := decide_eq_true c7
        clear c7
        obtain rfl := Option.some.inj H
        go_enter Try.func21, Try.ntmps21
        go_wp2_with (first | ((with_reducible refine gate_callee (f := 53) rfl ?_); refine goesL_ (some 6) rfl rfl Try.func53 (by kernel_rfl) rfl #[.string a1] rfl (by (try simp only [List.map_toArray, List.map_cons, List.map_nil]); first | done | rfl | (simp only [List.length_drop, List.length_take]; rfl)) ?_; (with_reducible refine (impl_longText.calls a1 false _ A3.out).mono ?_); rintro e w' ⟨rfl, ⟨nd, rfl⟩⟩; refine ⟨_, rfl, ?_⟩) | (go_at_call 62; (with_reducible refine (bits_Len64.calls (IntKind.u64.wrap (a0)) t192 _ A6.out).mono ?_); rintro e w' ⟨rfl, ⟨nd, rfl⟩⟩))
        go_ret
        exact ⟨by first | rfl | (simp; done) | (simp [*]; done), by repeat (first | exact Drawn0.refl _ | apply Drawn0.step)⟩
      · rw [if_neg c7] at H
        have c7b0 : decide (32 < t192) = false := decide_eq_false c7
        clear c7
        replace H := Option.bind_eq_some_iff.mp H
        obtain ⟨t193, A80, H⟩ := H
        replace H : (some (wrap64 (Go.bits .xor .u32 4294967295 t193))) = some r := H
        have A8 := Aside0.mk A80
        clear A80
        obtain rfl := Option.some.inj H
        go_enter Try.func21, Try.ntmps21
        go_wp2_with (first | ((with_reducible refine gate_callee (f := 53) rfl ?_); refine goesL_ (some 6) rfl rfl Try.func53 (by kernel_rfl) rfl #[.string a1] rfl (by (try simp only [List.map_toArray, List.map_cons, List.map_nil]); first | done | rfl | (simp only [List.length_drop, List.length_take]; rfl)) ?_; (with_reducible refine (impl_longText.calls a1 false _ A3.out).mono ?_); rintro e w' ⟨rfl, ⟨nd, rfl⟩⟩; refine ⟨_, rfl, ?_⟩) | (go_at_call 62; (with_reducible refine (bits_Len64.calls (IntKind.u64.wrap (a0)) t192 _ A6.out).mono ?_); rintro e w' ⟨rfl, ⟨nd, rfl⟩⟩) | ((with_reducible refine gate_callee (f := 63) rfl ?_); refine goesL_ (some 21) rfl rfl Try.func63 (by kernel_rfl) rfl #[.int .u32 (Go.bits .xor .u32 4294967295 ((a0) % 4294967296)), .string a1] rfl (by (try simp only [List.map_toArray, List.map_cons, List.map_nil]); first | done | rfl | (simp only [List.length_drop, List.length_take]; rfl)) ?_; (with_reducible refine (impl_crcMore.calls k (Go.bits .xor .u32 4294967295 ((a0) % 4294967296)) a1 t193 _ A8.out).mono ?_); rintro e w' ⟨rfl, ⟨nd, rfl⟩⟩; refine ⟨_, rfl, ?_⟩))
        go_ret
        exact ⟨by first | rfl | (simp; done) | (simp [*]; done), by repeat (first | exact Drawn0.refl _ | apply Drawn0.step)⟩

/-! ### spec_CrcMore: function 22 -/
def spec_CrcMore.f (k : Nat) (a0 : Int) (a1 : ByteArray) : Option (Int) := if (a1.size : Int) > 8000 then (some 0) else (if a0 < 0 then (some 0) else (if a0 > 4294967295 then (some 0) else ((spec_l01Crc.f k a0 a1).bind fun t194 => (some t194))))
theorem spec_CrcMore.mono : ∀ a0 a1 k, LeO (spec_CrcMore.f k a0 a1) (spec_CrcMore.f (k + 1) a0 a1) := by
  intro a0 a1 k
  unfold spec_CrcMore.f
  repeat' first
      | (with_reducible exact spec_l01Crc.mono _ _ _)
      | (with_reducible exact LeO.refl _)
      | (with_reducible exact LeO.none _)
      | (with_reducible refine LeO.ite ?_ ?_)
      | (with_reducible refine LeO.bind ?_ (fun _ => ?_))
      | exact spec_l01Crc.mono _ _ _
      | exact LeO.none _
      | refine LeO.ite ?_ ?_
      | refine LeO.bind ?_ (fun _ => ?_)
set_option maxHeartbeats 8000000 in
set_option maxRecDepth 100000 in
theorem spec_CrcMore.calls (k : Nat) (a0 : Int) (a1 : ByteArray) (r : Int) (w : World) (h : spec_CrcMore.f k a0 a1 = some r) :
    Calls Try.prog 22 #[.int .i64 a0, .string a1] w fun e w' => e = .returned (.int .i64 r) ∧ Drawn0 w w' := by
  have H : (if (a1.size : Int) > 8000 then (some 0) else (if a0 < 0 then (some 0) else (if a0 > 4294967295 then (some 0) else ((spec_l01Crc.f k a0 a1).bind fun t194 => (some t194))))) = some r := h
  clear h
  by_cases c3 : (a1.size : Int) > 8000
  · rw [if_pos c3] at H
    have c3b0 : decide (8000 < (a1.size : Int)) = true := decide_eq_true c3
    have c3b1 : decide (8000 < a1.size) = true := decide_eq_true (by omega)
    clear c3
    obtain rfl := Option.some.inj H
    go_enter Try.func22, Try.ntmps22
    go_wp2
    go_ret
    exact ⟨by first | rfl | (simp; done) | (simp [*]; done), by repeat (first | exact Drawn0.refl _ | apply Drawn0.step)⟩
  · rw [if_neg c3] at H
    have c3b0 : decide (8000 < (a1.size : Int)) = false := decide_eq_false c3
    have c3b1 : decide (8000 < a1.size) = false := decide_eq_false (by omega)
    clear c3
    by_cases c4 : a0 < 0
    · rw [if_pos c4] at H
      have c4b0 : decide (a0 < 0) = true := decide_eq_true c4
      clear c4
      obtain rfl := Option.some.inj H
      go_enter Try.func22, Try.ntmps22
      go_wp2
      go_ret
      exact ⟨by first | rfl | (simp; done) | (simp [*]; done), by repeat (first | exact Drawn0.refl _ | apply Drawn0.step)⟩
    · rw [if_neg c4] at H
      have c4b0 : decide (a0 < 0) = false := decide_eq_false c4
      clear c4
      by_cases c5 : a0 > 4294967295
      · rw [if_pos c5] at H
        have c5b0 : decide (4294967295 < a0) = true := decide_eq_true c5
        clear c5
        obtain rfl := Option.some.inj H
        go_enter Try.func22, Try.ntmps22
        go_wp2
        go_ret
        exact ⟨by first | rfl | (simp; done) | (simp [*]; done), by repeat (first | exact Drawn0.refl _ | apply Drawn0.step)⟩
      · rw [if_neg c5] at H
        have c5b0 : decide (4294967295 < a0) = false := decide_eq_false c5
        clear c5
        replace H := Option.bind_eq_some_iff.mp H
        obtain ⟨t194, A60, H⟩ := H
        replace H : (some t194) = some r := H
        have A6 := Aside0.mk A60
        clear A60
        obtain rfl := Option.some.inj H
        go_enter Try.func22, Try.ntmps22
        go_wp2_with (first | ((with_reducible refine gate_callee (f := 59) rfl ?_); refine goesL_ (some 18) rfl rfl Try.func59 (by kernel_rfl) rfl #[.int .i64 a0, .string a1] rfl (by (try simp only [List.map_toArray, List.map_cons, List.map_nil]); first | done | rfl | (simp only [List.length_drop, List.length_take]; rfl)) ?_; (with_reducible refine (spec_l01Crc.calls k a0 a1 t194 _ A6.out).mono ?_); rintro e w' ⟨rfl, ⟨nd, rfl⟩⟩; refine ⟨_, rfl, ?_⟩))
        go_ret
        exact ⟨by first | rfl | (simp; done) | (simp [*]; done), by repeat (first | exact Drawn0.refl _ | apply Drawn0.step)⟩

/-! ### laws_FnSeal: function 4, by a template -/
/-- The byte at a place turned by a number. -/
def laws_FnSeal.turn (s : ByteArray) (p x : Int) : Int := Go.bits .xor .u8 ((Go.Proofs.YtkgjikjnciihmaaH.bytesOf s).getD p.toNat 0) (IntKind.u8.wrap (IntKind.i64.wrap (1 + x)))
def laws_FnSeal.flip (s : ByteArray) (p x : Int) : ByteArray := strOfNums ((Go.Proofs.YtkgjikjnciihmaaH.bytesOf s).set p.toNat (laws_FnSeal.turn s p x))
def laws_FnSeal.fin (k : Nat) (t : ByteArray) (l1 : List Int) : Option Bool := (spec_DrawCrcMore.f k l1).bind fun q => if t.size ≤ 100000 ∧ q.2.size ≤ 100000 then (if t.size + q.2.size > 8000 then some true else (impl_CrcMore.f k q.1 q.2).bind fun a => (spec_CrcMore.f k q.1 q.2).bind fun b => if a = b then (impl_Crc.f k t).bind fun c => (impl_CrcMore.f k c q.2).bind fun d => (impl_Crc.f k (t ++ q.2)).bind fun e => if d = e then some true else none else none) else none
def laws_FnSeal.f (k : Nat) (l0 l1 : List Int) : Option Bool := if (l0.length : Int) > 1048576 ∨ (l1.length : Int) > 1048576 then some true else (spec_DrawSeal.f k l0).bind fun t => (impl_Seal.f k t).bind fun s => (spec_Seal.f k t).bind fun s2 => if s = s2 then (if s.toList = [] then laws_FnSeal.fin k t l1 else (laws_lwAt.f l1 0 (s.size : Int)).bind fun p => if 0 ≤ p ∧ p < (s.size : Int) then (laws_lwAt.f l1 1 255).bind fun x => (impl_Unseal.f k s).bind fun u => if u = (t, 0, 0) then (impl_Unseal.f k (laws_FnSeal.flip s p x)).bind fun v => if v.2.2 = 5 then laws_FnSeal.fin k t l1 else none else none else none) else none
set_option maxHeartbeats 8000000 in
set_option maxRecDepth 100000 in
theorem laws_FnSeal.lwStill (A0 : Option Addr) (c0 : Nat) (l0 : List Int) (a1 : Int) (a2 : Int) (r : Int) (w : World) (hr0 : Kd.C (Kd.int .u8) w A0 l0.length l0) (hc0 : l0.length ≤ c0) (h : laws_lwAt.f l0 a1 a2 = some r) :
    Calls Try.prog 18 #[.slice A0 l0.length c0, .int .i64 a1, .int .i64 a2] w fun e w' => e = .returned (.int .i64 r) ∧ w' = w := by
  have HR0 := Aside0.mk hr0
  have HC0 := Aside0.mk hc0
  clear hr0 hc0
  have H : (if a2 ≤ 1 then (some 0) else (if (l0.length : Int) = 0 then (some 0) else (if 0 ≤ (Int.tmod a1 (l0.length : Int)) then (if (Int.tmod a1 (l0.length : Int)) < (l0.length : Int) then (if a2 = 0 then (none) else (some (Int.tmod (wrap64 (rd l0 (Int.tmod a1 (l0.length : Int)))) a2))) else (none)) else (none)))) = some r := h
  clear h
  by_cases c4 : a2 ≤ 1
  · rw [if_pos c4] at H
    have c4b0 : decide (a2 ≤ 1) = true := decide_eq_true c4
    clear c4
    obtain rfl := Option.some.inj H
    go_enter Try.func18, Try.ntmps18
    go_wp2
    go_ret
    exact ⟨by first | rfl | (simp; done) | (simp [*]; done), rfl⟩
  · rw [if_neg c4] at H
    have c4b0 : decide (a2 ≤ 1) = false := decide_eq_false c4
    clear c4
    by_cases c5 : (l0.length : Int) = 0
    · rw [if_pos c5] at H
      have c5b0 : ((l0.length : Int) == 0) = true := beq_iff_eq.mpr c5
      have c5b1 : ((l0.length : Int) != 0) = false := bne_eq_false_iff_eq.mpr c5
      clear c5
      obtain rfl := Option.some.inj H
      go_enter Try.func18, Try.ntmps18
      go_wp2
      go_ret
      exact ⟨by first | rfl | (simp; done) | (simp [*]; done), rfl⟩
    · rw [if_neg c5] at H
      have c5b0 : ((l0.length : Int) == 0) = false := beq_eq_false_iff_ne.mpr c5
      have c5b1 : ((l0.length : Int) != 0) = true := bne_iff_ne.mpr c5
      have c5b2 : ¬ (l0 = []) := fun h_ => c5 (by rw [h_]; rfl)
      obtain ⟨ji6, hji6⟩ : ∃ j_ : Int, (Int.tmod a1 (l0.length : Int)) = j_ := ⟨_, rfl⟩
      replace H : (if 0 ≤ (ji6) then (if (ji6) < (l0.length : Int) then (if a2 = 0 then (none) else (some (Int.tmod (wrap64 (rd l0 (ji6))) a2))) else (none)) else (none)) = some r := by first | (rw [hji6] at H; exact H) | (simp only [hji6] at H ⊢; exact H)
      by_cases c7 : 0 ≤ (ji6)
      · rw [if_pos c7] at H
        have c7b0 : decide (0 ≤ (ji6)) = true := decide_eq_true c7
        clear c7
        by_cases c8 : (ji6) < (l0.length : Int)
        · rw [if_pos c8] at H
          have c8b0 : decide ((ji6) < (l0.length : Int)) = true := decide_eq_true c8
          clear c8
          by_cases c9 : a2 = 0
          · rw [if_pos c9] at H
            exact absurd H (by simp)
          · rw [if_neg c9] at H
            have c9b0 : (a2 == 0) = false := beq_eq_false_iff_ne.mpr c9
            have c9b1 : (a2 != 0) = true := bne_iff_ne.mpr c9
            obtain rfl := Option.some.inj H
            have p148 : 0 ≤ ((ji6) : Int) := of_decide_eq_true (by first | (with_reducible assumption) | assumption)
            have q148 : (ji6) < (l0.length : Int) := of_decide_eq_true (by first | (with_reducible assumption) | assumption)
            obtain ⟨ad148, e148, hx148_0⟩ := Kd.at_int HR0.out (ji6) p148 q148
            cases e148
            replace p148 := eq_true p148
            replace q148 := eq_true q148
            go_enter Try.func18, Try.ntmps18
            go_wp2
            go_ret
            exact ⟨by first | rfl | (simp; done) | (simp only [← hji6] <;> (first | rfl | simp)) | (simp [*]; done), rfl⟩
        · rw [if_neg c8] at H
          exact absurd H (by simp)
      · rw [if_neg c7] at H
        exact absurd H (by simp)
set_option maxHeartbeats 8000000 in
set_option maxRecDepth 100000 in
theorem laws_FnSeal.walkE (k : Nat) (A0 : Option Addr) (c0 : Nat) (l0 : List Int) (A1 : Option Addr) (c1 : Nat) (l1 : List Int) (t s : ByteArray) (w : World) (hr0 : Kd.C (Kd.int .u8) w A0 l0.length l0) (hc0 : l0.length ≤ c0) (hr1 : Kd.C (Kd.int .u8) w A1 l1.length l1) (hc1 : l1.length ≤ c1) (b0 : (l0.length : Int) ≤ 1048576) (b1 : (l1.length : Int) ≤ 1048576) (h1 : spec_DrawSeal.f k l0 = some t) (h2 : impl_Seal.f k t = some s) (h3 : spec_Seal.f k t = some s) (hs : s.toList = []) (hF : laws_FnSeal.fin k t l1 = some true) :
    Calls Try.prog 4 #[.slice A0 l0.length c0, .slice A1 l1.length c1] w fun e w' => e = .returned (.bool true) ∧ Below w.heap.size w w' := by
  have b0d : decide ((1048576 : Int) < (l0.length : Int)) = false := decide_eq_false (by omega)
  have b1d : decide ((1048576 : Int) < (l1.length : Int)) = false := decide_eq_false (by omega)
  have hfd : ∀ (a0_ a1_ a2_ : Value) (w_ : World), (Instr.field 31 (.agg #[a0_, a1_, a2_]) 2).run Try.prog w_ = .ok a2_ w_ := fun _ _ _ _ => by kernel_rfl
  have HR0 := Aside0.mk hr0
  have HC0 := Aside0.mk hc0
  have HR1 := Aside0.mk hr1
  have HC1 := Aside0.mk hc1
  have A1_ := Aside0.mk h1
  have A2_ := Aside0.mk h2
  have A3_ := Aside0.mk h3
  clear hr0 hc0 hr1 hc1 h1 h2 h3 b0 b1
  have hse : (s.toList == ([] : List UInt8)) = true := by rw [hs]; rfl
  have hse2 : (s.toList != ([] : List UInt8)) = false := by rw [hs]; rfl
  unfold laws_FnSeal.fin at hF
  replace hF := Option.bind_eq_some_iff.mp hF
  obtain ⟨⟨cr, u⟩, hD, hF⟩ := hF
  simp only [] at hF
  by_cases hz : t.size ≤ 100000 ∧ u.size ≤ 100000
  rotate_left
  · rw [if_neg hz] at hF; cases hF
  rw [if_pos hz] at hF
  have hw : IntKind.i64.wrap ((t.size : Int) + (u.size : Int)) = (t.size : Int) + (u.size : Int) := by rw [i64_w]; unfold wrap64; omega
  have AD := Aside0.mk hD
  clear hD
  by_cases hbig : t.size + u.size > 8000
  · have hbd : decide ((8000 : Int) < (t.size : Int) + (u.size : Int)) = true := decide_eq_true (by omega)
    have hbd2 : decide (8000 < t.size + u.size) = true := decide_eq_true (by omega)
    clear hF
    go_enter Try.func4, Try.ntmps4
    go_wp2_with (first | (go_at_call 15; (with_reducible refine (spec_DrawSeal.calls k A0 c0 l0 t _ HR0.out HC0.out A1_.out).mono ?_); rintro e w' ⟨rfl, hb⟩; have HB := Aside0.mk hb; clear hb) | (go_at_call 16; (with_reducible refine (impl_Seal.calls k t s _ A2_.out).mono ?_); rintro e w' ⟨rfl, hb⟩; have HB := Aside0.mk (below_step HB.out hb); clear hb) | (go_at_call 17; (with_reducible refine (spec_Seal.calls k t s _ A3_.out).mono ?_); rintro e w' ⟨rfl, hb⟩; have HB := Aside0.mk (below_step HB.out hb); clear hb) | (go_at_call 20; (with_reducible refine (spec_DrawCrcMore.calls k A1 c1 l1 cr u _ (Kd.C_below HR1.out HB.out) HC1.out AD.out).mono ?_); rintro e w' ⟨rfl, hb⟩; have HB := Aside0.mk (below_step HB.out hb); clear hb))
    go_ret
    exact ⟨by first | rfl | (simp; done), HB.out⟩
  · rw [if_neg hbig] at hF
    have hbd : decide ((8000 : Int) < (t.size : Int) + (u.size : Int)) = false := decide_eq_false (by omega)
    have hbd2 : decide (8000 < t.size + u.size) = false := decide_eq_false (by omega)
    have hcat : (9223372036854775807 < t.size + u.size) = False := eq_false (by omega)
    replace hF := Option.bind_eq_some_iff.mp hF
    obtain ⟨a, hF1, hF⟩ := hF
    replace hF := Option.bind_eq_some_iff.mp hF
    obtain ⟨b, hF2, hF⟩ := hF
    by_cases hab : a = b
    rotate_left
    · rw [if_neg hab] at hF; cases hF
    rw [if_pos hab] at hF
    subst hab
    replace hF := Option.bind_eq_some_iff.mp hF
    obtain ⟨c, hF3, hF⟩ := hF
    replace hF := Option.bind_eq_some_iff.mp hF
    obtain ⟨d, hF4, hF⟩ := hF
    replace hF := Option.bind_eq_some_iff.mp hF
    obtain ⟨e, hF5, hF⟩ := hF
    by_cases hde : d = e
    rotate_left
    · rw [if_neg hde] at hF; cases hF
    subst hde
    have AF1 := Aside0.mk hF1
    have AF2 := Aside0.mk hF2
    have AF3 := Aside0.mk hF3
    have AF4 := Aside0.mk hF4
    have AF5 := Aside0.mk hF5
    clear hF hF1 hF2 hF3 hF4 hF5
    go_enter Try.func4, Try.ntmps4
    go_wp2_with (first | (go_at_call 15; (with_reducible refine (spec_DrawSeal.calls k A0 c0 l0 t _ HR0.out HC0.out A1_.out).mono ?_); rintro e w' ⟨rfl, hb⟩; have HB := Aside0.mk hb; clear hb) | (go_at_call 16; (with_reducible refine (impl_Seal.calls k t s _ A2_.out).mono ?_); rintro e w' ⟨rfl, hb⟩; have HB := Aside0.mk (below_step HB.out hb); clear hb) | (go_at_call 17; (with_reducible refine (spec_Seal.calls k t s _ A3_.out).mono ?_); rintro e w' ⟨rfl, hb⟩; have HB := Aside0.mk (below_step HB.out hb); clear hb) | (go_at_call 20; (with_reducible refine (spec_DrawCrcMore.calls k A1 c1 l1 cr u _ (Kd.C_below HR1.out HB.out) HC1.out AD.out).mono ?_); rintro e w' ⟨rfl, hb⟩; have HB := Aside0.mk (below_step HB.out hb); clear hb) | (go_at_call 21; (with_reducible refine (impl_CrcMore.calls k cr u a _ AF1.out).mono ?_); rintro e w' ⟨rfl, hdr⟩; have HB := Aside0.mk (below_step HB.out hdr.below); clear hdr) | (go_at_call 22; (with_reducible refine (spec_CrcMore.calls k cr u a _ AF2.out).mono ?_); rintro e w' ⟨rfl, hdr⟩; have HB := Aside0.mk (below_step HB.out hdr.below); clear hdr) | (go_at_call 23; (with_reducible refine (impl_Crc.calls k t c _ AF3.out).mono ?_); rintro e w' ⟨rfl, hdr⟩; have HB := Aside0.mk (below_step HB.out hdr.below); clear hdr) | (go_at_call 21; (with_reducible refine (impl_CrcMore.calls k c u d _ AF4.out).mono ?_); rintro e w' ⟨rfl, hdr⟩; have HB := Aside0.mk (below_step HB.out hdr.below); clear hdr) | (go_at_call 23; (with_reducible refine (impl_Crc.calls k (t ++ u) d _ AF5.out).mono ?_); rintro e w' ⟨rfl, hdr⟩; have HB := Aside0.mk (below_step HB.out hdr.below); clear hdr))
    go_ret
    exact ⟨by first | rfl | (simp; done), HB.out⟩
set_option maxHeartbeats 8000000 in
set_option maxRecDepth 100000 in
theorem laws_FnSeal.walkS (k : Nat) (A0 : Option Addr) (c0 : Nat) (l0 : List Int) (A1 : Option Addr) (c1 : Nat) (l1 : List Int) (t s : ByteArray) (j : Nat) (x v1 : Int) (v0 : ByteArray) (w : World) (hr0 : Kd.C (Kd.int .u8) w A0 l0.length l0) (hc0 : l0.length ≤ c0) (hr1 : Kd.C (Kd.int .u8) w A1 l1.length l1) (hc1 : l1.length ≤ c1) (b0 : (l0.length : Int) ≤ 1048576) (b1 : (l1.length : Int) ≤ 1048576) (h1 : spec_DrawSeal.f k l0 = some t) (h2 : impl_Seal.f k t = some s) (h3 : spec_Seal.f k t = some s) (hs : ¬ s.toList = []) (h4 : laws_lwAt.f l1 0 (s.size : Int) = some (j : Int)) (h41 : (j : Int) < (s.size : Int)) (h5 : laws_lwAt.f l1 1 255 = some x) (h6 : impl_Unseal.f k s = some (t, 0, 0)) (h7 : impl_Unseal.f k (laws_FnSeal.flip s (j : Int) x) = some (v0, v1, 5)) (hF : laws_FnSeal.fin k t l1 = some true) :
    Calls Try.prog 4 #[.slice A0 l0.length c0, .slice A1 l1.length c1] w fun e w' => e = .returned (.bool true) ∧ Below w.heap.size w w' := by
  have b0d : decide ((1048576 : Int) < (l0.length : Int)) = false := decide_eq_false (by omega)
  have b1d : decide ((1048576 : Int) < (l1.length : Int)) = false := decide_eq_false (by omega)
  have hfd : ∀ (a0_ a1_ a2_ : Value) (w_ : World), (Instr.field 31 (.agg #[a0_, a1_, a2_]) 2).run Try.prog w_ = .ok a2_ w_ := fun _ _ _ _ => by kernel_rfl
  have HR0 := Aside0.mk hr0
  have HC0 := Aside0.mk hc0
  have HR1 := Aside0.mk hr1
  have HC1 := Aside0.mk hc1
  have A1_ := Aside0.mk h1
  have A2_ := Aside0.mk h2
  have A3_ := Aside0.mk h3
  clear hr0 hc0 hr1 hc1 h1 h2 h3 b0 b1
  have hse : (s.toList == ([] : List UInt8)) = false := by simpa using hs
  have hse2 : (s.toList != ([] : List UInt8)) = true := by simpa using hs
  have A4_ := Aside0.mk h4
  have A5_ := Aside0.mk h5
  have A6_ := Aside0.mk h6
  have A7_ := Aside0.mk h7
  have HP := Aside0.mk (show (0 : Int) ≤ (j : Int) by omega)
  have HQ := Aside0.mk h41
  have HJ := Aside0.mk (show j < (Go.Proofs.YtkgjikjnciihmaaH.bytesOf s).length by rw [Go.Proofs.YtkgjikjnciihmaaH.bytesOf_length]; omega)
  clear h4 h5 h6 h7 h41
  unfold laws_FnSeal.fin at hF
  replace hF := Option.bind_eq_some_iff.mp hF
  obtain ⟨⟨cr, u⟩, hD, hF⟩ := hF
  simp only [] at hF
  by_cases hz : t.size ≤ 100000 ∧ u.size ≤ 100000
  rotate_left
  · rw [if_neg hz] at hF; cases hF
  rw [if_pos hz] at hF
  have hw : IntKind.i64.wrap ((t.size : Int) + (u.size : Int)) = (t.size : Int) + (u.size : Int) := by rw [i64_w]; unfold wrap64; omega
  have AD := Aside0.mk hD
  clear hD
  by_cases hbig : t.size + u.size > 8000
  · have hbd : decide ((8000 : Int) < (t.size : Int) + (u.size : Int)) = true := decide_eq_true (by omega)
    have hbd2 : decide (8000 < t.size + u.size) = true := decide_eq_true (by omega)
    clear hF
    have qc : ∀ w : World, (convert 9 22 (.string s)).run Try.prog w = .ok (.slice (some ⟨w.heap.size, 0, none⟩) s.size (grownCap w s.size 0 5)) (Lib.bytesWorld w 5 s) := fun w => Lib.run_convert_string_bytes w 9 22 5 s Try.underlying9 Try.underlying22 Try.underlying5
    go_enter Try.func4, Try.ntmps4
    go_upto_region 9 with (first | (go_at_call 15; (with_reducible refine (spec_DrawSeal.calls k A0 c0 l0 t _ HR0.out HC0.out A1_.out).mono ?_); rintro e w' ⟨rfl, hb⟩; have HB := Aside0.mk hb; clear hb) | (go_at_call 16; (with_reducible refine (impl_Seal.calls k t s _ A2_.out).mono ?_); rintro e w' ⟨rfl, hb⟩; have HB := Aside0.mk (below_step HB.out hb); clear hb) | (go_at_call 17; (with_reducible refine (spec_Seal.calls k t s _ A3_.out).mono ?_); rintro e w' ⟨rfl, hb⟩; have HB := Aside0.mk (below_step HB.out hb); clear hb))
    have hrow := Go.Proofs.YtkgjikjnciihmaaH.BRow.ofString w w' w.heap.size 5 s HB.out HB.out.size
    clear HB
    obtain ⟨g, cp, hv, hl, hg, hc, hf⟩ := hrow.ex
    rw [Go.Proofs.YtkgjikjnciihmaaH.bytesOf_length] at hv
    injection hv with e1 e2 e3
    injection e1 with e1
    injection e1 with e1
    have hjl : j < (Go.Proofs.YtkgjikjnciihmaaH.bytesOf s).length := by rw [Go.Proofs.YtkgjikjnciihmaaH.bytesOf_length]; have := HQ.out; omega
    have hcj := hc j hjl
    obtain ⟨bj, hbj⟩ : ∃ b, (Go.Proofs.YtkgjikjnciihmaaH.bytesOf s).getD j 0 = b := ⟨_, rfl⟩
    rw [hbj] at hcj
    obtain ⟨y, hy⟩ : ∃ y, Go.bits .xor .u8 bj (IntKind.u8.wrap (IntKind.i64.wrap (1 + x))) = y := ⟨_, rfl⟩
    have A7b := Aside0.mk (show impl_Unseal.f k (strOfNums ((Go.Proofs.YtkgjikjnciihmaaH.bytesOf s).set j y)) = some (v0, v1, 5) from by rw [← hy, ← hbj]; exact A7_.out)
    have HY := Aside0.mk hy
    clear hbj A7_ hy
    have hfj := (hf j (by omega)).2
    rw [e1, e3] at hrow
    clear hc hf hg hl e2 qc hjl
    rw [e1, e3]
    generalize Lib.bytesWorld w' 5 s = W at hcj hfj hrow ⊢
    have HW := Aside0.mk hrow
    clear hrow
    have hp := eq_true HP.out
    have hq := eq_true HQ.out
    go_upto_region 10 with (go_at_call 18; (with_reducible refine (laws_lwAt.calls A1 c1 l1 0 (s.size : Int) (j : Int) _ (Kd.C_below HR1.out HW.out.below) HC1.out A4_.out).mono ?_); rintro e w'' ⟨rfl, ⟨nd, rfl⟩⟩)
    have hcj2 : (W.drewN nd).cell? ⟨g, j, none⟩ = some (.int .u8 bj) := hcj
    have hfj2 : (W.drewN nd).frozen? ⟨g, j, none⟩ = false := hfj
    have HW2 := Aside0.mk (HW.out.drewN nd)
    clear hcj hfj HW
    generalize W.drewN nd = W2 at hcj2 hfj2 HW2 ⊢
    go_still_tail 12, (by kernel_rfl)
    still_call (laws_FnSeal.lwStill A1 c1 l1 1 255 x _ (Kd.C_below HR1.out (below_drew1 HW2.out.below)) HC1.out A5_.out)
    repeat still_step
    refine wpStill_nil ?_
    rw [HY.out]
    have hcj3 : W2.drew.cell? ⟨g, j, none⟩ = some (.int .u8 bj) := hcj2
    have hfj3 : W2.drew.frozen? ⟨g, j, none⟩ = false := hfj2
    have HW3 := Aside0.mk (HW2.out.drew)
    clear hcj2 hfj2 HW2
    change wpList _ _ _ _ _ W2.drew
    generalize W2.drew = W3 at hcj3 hfj3 HW3 ⊢
    go_upto_region 11 with (fail)
    have HW4 := Aside0.mk (HW3.out.setByte j HJ.out y)
    generalize W3.setCell ⟨g, j, none⟩ (.int .u8 y) = W4 at HW4 ⊢
    clear hcj3 hfj3 HW3
    go_wp2_with (first | (go_at_call 19; (with_reducible refine (impl_Unseal.calls k s t 0 0 _ A6_.out).mono ?_); rintro e w' ⟨rfl, hb⟩; have HW5 := Aside0.mk (HW4.out.step hb); clear hb; have qt := HW5.out.text (P := Try.prog) 22 5 9 Try.underlying22 Try.underlying5 Try.underlying9) | (go_at_call 19; (with_reducible refine (impl_Unseal.calls k (strOfNums ((Go.Proofs.YtkgjikjnciihmaaH.bytesOf s).set j y)) v0 v1 5 _ A7b.out).mono ?_); rintro e w' ⟨rfl, hb⟩; have HB := Aside0.mk (below_step HW5.out.below hb); clear hb; clear qt) | (go_at_call 15; (with_reducible refine (spec_DrawSeal.calls k A0 c0 l0 t _ HR0.out HC0.out A1_.out).mono ?_); rintro e w' ⟨rfl, hb⟩; have HB := Aside0.mk hb; clear hb) | (go_at_call 16; (with_reducible refine (impl_Seal.calls k t s _ A2_.out).mono ?_); rintro e w' ⟨rfl, hb⟩; have HB := Aside0.mk (below_step HB.out hb); clear hb) | (go_at_call 17; (with_reducible refine (spec_Seal.calls k t s _ A3_.out).mono ?_); rintro e w' ⟨rfl, hb⟩; have HB := Aside0.mk (below_step HB.out hb); clear hb) | (go_at_call 20; (with_reducible refine (spec_DrawCrcMore.calls k A1 c1 l1 cr u _ (Kd.C_below HR1.out HB.out) HC1.out AD.out).mono ?_); rintro e w' ⟨rfl, hb⟩; have HB := Aside0.mk (below_step HB.out hb); clear hb))
    go_ret
    exact ⟨by first | rfl | (simp; done), HB.out⟩
  · rw [if_neg hbig] at hF
    have hbd : decide ((8000 : Int) < (t.size : Int) + (u.size : Int)) = false := decide_eq_false (by omega)
    have hbd2 : decide (8000 < t.size + u.size) = false := decide_eq_false (by omega)
    have hcat : (9223372036854775807 < t.size + u.size) = False := eq_false (by omega)
    replace hF := Option.bind_eq_some_iff.mp hF
    obtain ⟨a, hF1, hF⟩ := hF
    replace hF := Option.bind_eq_some_iff.mp hF
    obtain ⟨b, hF2, hF⟩ := hF
    by_cases hab : a = b
    rotate_left
    · rw [if_neg hab] at hF; cases hF
    rw [if_pos hab] at hF
    subst hab
    replace hF := Option.bind_eq_some_iff.mp hF
    obtain ⟨c, hF3, hF⟩ := hF
    replace hF := Option.bind_eq_some_iff.mp hF
    obtain ⟨d, hF4, hF⟩ := hF
    replace hF := Option.bind_eq_some_iff.mp hF
    obtain ⟨e, hF5, hF⟩ := hF
    by_cases hde : d = e
    rotate_left
    · rw [if_neg hde] at hF; cases hF
    subst hde
    have AF1 := Aside0.mk hF1
    have AF2 := Aside0.mk hF2
    have AF3 := Aside0.mk hF3
    have AF4 := Aside0.mk hF4
    have AF5 := Aside0.mk hF5
    clear hF hF1 hF2 hF3 hF4 hF5
    have qc : ∀ w : World, (convert 9 22 (.string s)).run Try.prog w = .ok (.slice (some ⟨w.heap.size, 0, none⟩) s.size (grownCap w s.size 0 5)) (Lib.bytesWorld w 5 s) := fun w => Lib.run_convert_string_bytes w 9 22 5 s Try.underlying9 Try.underlying22 Try.underlying5
    go_enter Try.func4, Try.ntmps4
    go_upto_region 9 with (first | (go_at_call 15; (with_reducible refine (spec_DrawSeal.calls k A0 c0 l0 t _ HR0.out HC0.out A1_.out).mono ?_); rintro e w' ⟨rfl, hb⟩; have HB := Aside0.mk hb; clear hb) | (go_at_call 16; (with_reducible refine (impl_Seal.calls k t s _ A2_.out).mono ?_); rintro e w' ⟨rfl, hb⟩; have HB := Aside0.mk (below_step HB.out hb); clear hb) | (go_at_call 17; (with_reducible refine (spec_Seal.calls k t s _ A3_.out).mono ?_); rintro e w' ⟨rfl, hb⟩; have HB := Aside0.mk (below_step HB.out hb); clear hb))
    have hrow := Go.Proofs.YtkgjikjnciihmaaH.BRow.ofString w w' w.heap.size 5 s HB.out HB.out.size
    clear HB
    obtain ⟨g, cp, hv, hl, hg, hc, hf⟩ := hrow.ex
    rw [Go.Proofs.YtkgjikjnciihmaaH.bytesOf_length] at hv
    injection hv with e1 e2 e3
    injection e1 with e1
    injection e1 with e1
    have hjl : j < (Go.Proofs.YtkgjikjnciihmaaH.bytesOf s).length := by rw [Go.Proofs.YtkgjikjnciihmaaH.bytesOf_length]; have := HQ.out; omega
    have hcj := hc j hjl
    obtain ⟨bj, hbj⟩ : ∃ b, (Go.Proofs.YtkgjikjnciihmaaH.bytesOf s).getD j 0 = b := ⟨_, rfl⟩
    rw [hbj] at hcj
    obtain ⟨y, hy⟩ : ∃ y, Go.bits .xor .u8 bj (IntKind.u8.wrap (IntKind.i64.wrap (1 + x))) = y := ⟨_, rfl⟩
    have A7b := Aside0.mk (show impl_Unseal.f k (strOfNums ((Go.Proofs.YtkgjikjnciihmaaH.bytesOf s).set j y)) = some (v0, v1, 5) from by rw [← hy, ← hbj]; exact A7_.out)
    have HY := Aside0.mk hy
    clear hbj A7_ hy
    have hfj := (hf j (by omega)).2
    rw [e1, e3] at hrow
    clear hc hf hg hl e2 qc hjl
    rw [e1, e3]
    generalize Lib.bytesWorld w' 5 s = W at hcj hfj hrow ⊢
    have HW := Aside0.mk hrow
    clear hrow
    have hp := eq_true HP.out
    have hq := eq_true HQ.out
    go_upto_region 10 with (go_at_call 18; (with_reducible refine (laws_lwAt.calls A1 c1 l1 0 (s.size : Int) (j : Int) _ (Kd.C_below HR1.out HW.out.below) HC1.out A4_.out).mono ?_); rintro e w'' ⟨rfl, ⟨nd, rfl⟩⟩)
    have hcj2 : (W.drewN nd).cell? ⟨g, j, none⟩ = some (.int .u8 bj) := hcj
    have hfj2 : (W.drewN nd).frozen? ⟨g, j, none⟩ = false := hfj
    have HW2 := Aside0.mk (HW.out.drewN nd)
    clear hcj hfj HW
    generalize W.drewN nd = W2 at hcj2 hfj2 HW2 ⊢
    go_still_tail 12, (by kernel_rfl)
    still_call (laws_FnSeal.lwStill A1 c1 l1 1 255 x _ (Kd.C_below HR1.out (below_drew1 HW2.out.below)) HC1.out A5_.out)
    repeat still_step
    refine wpStill_nil ?_
    rw [HY.out]
    have hcj3 : W2.drew.cell? ⟨g, j, none⟩ = some (.int .u8 bj) := hcj2
    have hfj3 : W2.drew.frozen? ⟨g, j, none⟩ = false := hfj2
    have HW3 := Aside0.mk (HW2.out.drew)
    clear hcj2 hfj2 HW2
    change wpList _ _ _ _ _ W2.drew
    generalize W2.drew = W3 at hcj3 hfj3 HW3 ⊢
    go_upto_region 11 with (fail)
    have HW4 := Aside0.mk (HW3.out.setByte j HJ.out y)
    generalize W3.setCell ⟨g, j, none⟩ (.int .u8 y) = W4 at HW4 ⊢
    clear hcj3 hfj3 HW3
    go_wp2_with (first | (go_at_call 19; (with_reducible refine (impl_Unseal.calls k s t 0 0 _ A6_.out).mono ?_); rintro e w' ⟨rfl, hb⟩; have HW5 := Aside0.mk (HW4.out.step hb); clear hb; have qt := HW5.out.text (P := Try.prog) 22 5 9 Try.underlying22 Try.underlying5 Try.underlying9) | (go_at_call 19; (with_reducible refine (impl_Unseal.calls k (strOfNums ((Go.Proofs.YtkgjikjnciihmaaH.bytesOf s).set j y)) v0 v1 5 _ A7b.out).mono ?_); rintro e w' ⟨rfl, hb⟩; have HB := Aside0.mk (below_step HW5.out.below hb); clear hb; clear qt) | (go_at_call 15; (with_reducible refine (spec_DrawSeal.calls k A0 c0 l0 t _ HR0.out HC0.out A1_.out).mono ?_); rintro e w' ⟨rfl, hb⟩; have HB := Aside0.mk hb; clear hb) | (go_at_call 16; (with_reducible refine (impl_Seal.calls k t s _ A2_.out).mono ?_); rintro e w' ⟨rfl, hb⟩; have HB := Aside0.mk (below_step HB.out hb); clear hb) | (go_at_call 17; (with_reducible refine (spec_Seal.calls k t s _ A3_.out).mono ?_); rintro e w' ⟨rfl, hb⟩; have HB := Aside0.mk (below_step HB.out hb); clear hb) | (go_at_call 20; (with_reducible refine (spec_DrawCrcMore.calls k A1 c1 l1 cr u _ (Kd.C_below HR1.out HB.out) HC1.out AD.out).mono ?_); rintro e w' ⟨rfl, hb⟩; have HB := Aside0.mk (below_step HB.out hb); clear hb) | (go_at_call 21; (with_reducible refine (impl_CrcMore.calls k cr u a _ AF1.out).mono ?_); rintro e w' ⟨rfl, hdr⟩; have HB := Aside0.mk (below_step HB.out hdr.below); clear hdr) | (go_at_call 22; (with_reducible refine (spec_CrcMore.calls k cr u a _ AF2.out).mono ?_); rintro e w' ⟨rfl, hdr⟩; have HB := Aside0.mk (below_step HB.out hdr.below); clear hdr) | (go_at_call 23; (with_reducible refine (impl_Crc.calls k t c _ AF3.out).mono ?_); rintro e w' ⟨rfl, hdr⟩; have HB := Aside0.mk (below_step HB.out hdr.below); clear hdr) | (go_at_call 21; (with_reducible refine (impl_CrcMore.calls k c u d _ AF4.out).mono ?_); rintro e w' ⟨rfl, hdr⟩; have HB := Aside0.mk (below_step HB.out hdr.below); clear hdr) | (go_at_call 23; (with_reducible refine (impl_Crc.calls k (t ++ u) d _ AF5.out).mono ?_); rintro e w' ⟨rfl, hdr⟩; have HB := Aside0.mk (below_step HB.out hdr.below); clear hdr))
    go_ret
    exact ⟨by first | rfl | (simp; done), HB.out⟩
set_option maxHeartbeats 8000000 in
set_option maxRecDepth 100000 in
theorem laws_FnSeal.calls (k : Nat) (A0 : Option Addr) (c0 : Nat) (l0 : List Int) (A1 : Option Addr) (c1 : Nat) (l1 : List Int) (r : Bool) (w : World) (hr0 : Kd.C (Kd.int .u8) w A0 l0.length l0) (hc0 : l0.length ≤ c0) (hr1 : Kd.C (Kd.int .u8) w A1 l1.length l1) (hc1 : l1.length ≤ c1) (h : laws_FnSeal.f k l0 l1 = some r) (ht_ : r = true) :
    Calls Try.prog 4 #[.slice A0 l0.length c0, .slice A1 l1.length c1] w fun e w' => e = .returned (.bool r) ∧ Below w.heap.size w w' := by
  subst ht_
  unfold laws_FnSeal.f at h
  by_cases hb : (l0.length : Int) > 1048576 ∨ (l1.length : Int) > 1048576
  · clear h
    by_cases hb0 : (l0.length : Int) > 1048576
    · have b0d : decide ((1048576 : Int) < (l0.length : Int)) = true := decide_eq_true hb0
      go_enter Try.func4, Try.ntmps4
      go_wp2
      go_ret
      exact ⟨by first | rfl | (simp; done), Below.refl _ _⟩
    · have b0d : decide ((1048576 : Int) < (l0.length : Int)) = false := decide_eq_false hb0
      have b1d : decide ((1048576 : Int) < (l1.length : Int)) = true := decide_eq_true (by omega)
      go_enter Try.func4, Try.ntmps4
      go_wp2
      go_ret
      exact ⟨by first | rfl | (simp; done), Below.refl _ _⟩
  rw [if_neg hb] at h
  replace h := Option.bind_eq_some_iff.mp h
  obtain ⟨t, h1, h⟩ := h
  replace h := Option.bind_eq_some_iff.mp h
  obtain ⟨s, h2, h⟩ := h
  replace h := Option.bind_eq_some_iff.mp h
  obtain ⟨s2, h3, h⟩ := h
  by_cases hss : s = s2
  rotate_left
  · rw [if_neg hss] at h; cases h
  rw [if_pos hss] at h
  subst hss
  by_cases hs : s.toList = []
  · rw [if_pos hs] at h
    exact laws_FnSeal.walkE k A0 c0 l0 A1 c1 l1 t s w hr0 hc0 hr1 hc1 (by omega) (by omega) h1 h2 h3 hs h
  · rw [if_neg hs] at h
    replace h := Option.bind_eq_some_iff.mp h
    obtain ⟨p, h4, h⟩ := h
    by_cases hp : 0 ≤ p ∧ p < (s.size : Int)
    rotate_left
    · rw [if_neg hp] at h; cases h
    rw [if_pos hp] at h
    obtain ⟨j, rfl⟩ : ∃ j : Nat, p = (j : Int) := ⟨p.toNat, by omega⟩
    replace h := Option.bind_eq_some_iff.mp h
    obtain ⟨x, h5, h⟩ := h
    replace h := Option.bind_eq_some_iff.mp h
    obtain ⟨u, h6, h⟩ := h
    by_cases hu : u = (t, 0, 0)
    rotate_left
    · rw [if_neg hu] at h; cases h
    rw [if_pos hu] at h
    subst hu
    replace h := Option.bind_eq_some_iff.mp h
    obtain ⟨⟨v0, v1, v2⟩, h7, h⟩ := h
    by_cases hv : v2 = 5
    rotate_left
    · rw [if_neg hv] at h; cases h
    rw [if_pos hv] at h
    subst hv
    exact laws_FnSeal.walkS k A0 c0 l0 A1 c1 l1 t s j x v1 v0 w hr0 hc0 hr1 hc1 (by omega) (by omega) h1 h2 h3 hs h4 hp.2 h5 h6 h7 h

end Go.Proofs.Ytkgjikjnciihmaa.PFnSeal
