/- The plain law of FnSeal: what the Lean functions of the printed texts answer. -/
import Derived.Test.YtkgjikjnciihmaaGFnSeal
import Derived.Test.YtkgjikjnciihmaaHSem
import Derived.Test.YtkgjikjnciihmaaHBytes
namespace Go.Proofs.Ytkgjikjnciihmaa.Pure
open Go.RowKit Go.Proofs.Ytkgjikjnciihmaa.PFnSeal Go.Proofs.YtkgjikjnciihmaaW.PrintWords Go.Proofs.YtkgjikjnciihmaaW.PrintLast Go.Proofs.YtkgjikjnciihmaaW.PrintMore Go.Proofs.YtkgjikjnciihmaaH
set_option linter.unusedVariables false
set_option linter.unusedSimpArgs false

theorem specCrc_l1 (s : ByteArray) (i : Int) (R : Int) : ∀ (d j : Nat) (r : BitVec 32), j + d = 8 → Ev (fun k => spec_l01Crc.l0 k s ((crcBits d r).toNat : Int) (wrap64 (i + 1))) R → Ev (fun k => spec_l01Crc.l1 k s (r.toNat : Int) i (j : Int)) R
  | 0, j, r, h, H => Ev.step (fun k => by simp only [spec_l01Crc.l1]; rw [if_neg (by omega)]; rfl) H
  | d + 1, j, r, h, H => by
    have hw : wrap64 ((j : Int) + 1) = ((j + 1 : Nat) : Int) := wrap_succ (i := j) (n := 8) (by omega) (by omega)
    refine Ev.step (f := fun k => spec_l01Crc.l1 k s ((crcBit r).toNat : Int) i ((j + 1 : Nat) : Int)) (fun k => ?_) (specCrc_l1 s i R d (j + 1) (crcBit r) (by omega) H)
    simp only [spec_l01Crc.l1]
    rw [if_pos (by omega), hw, half32 r _ _ rfl rfl, polyStep]
    unfold crcBit
    by_cases hb : r &&& 1#32 = 1#32
    · rw [if_pos ((low32 r).2 hb), if_pos hb]
    · rw [if_neg (fun h => hb ((low32 r).1 h)), if_neg hb]
theorem specCrc_l0 (s : ByteArray) (hs : s.size ≤ 140737488355328) : ∀ (d i : Nat) (r : BitVec 32), i + d = s.size → Ev (fun k => spec_l01Crc.l0 k s (r.toNat : Int) (i : Int)) (((~~~ (crcFrom s i d r)).toNat : Nat) : Int)
  | 0, i, r, h => Ev.step (f := fun _ => some (((~~~ r).toNat : Nat) : Int)) (fun k => by
      simp only [spec_l01Crc.l0]; rw [if_neg (by omega), not32, wrap_id (by omega) (by have := (~~~ r).isLt; omega)]) (Ev.now _)
  | d + 1, i, r, h => by
    have hw := wrap_succ (i := i) (n := s.size) (by omega) hs
    have hb := bt_range s (i : Int)
    have ih := specCrc_l0 s hs d (i + 1) (crcByte r (bt s (i : Int))) (by omega)
    refine Ev.step (f := fun k => spec_l01Crc.l1 k s ((r ^^^ BitVec.ofInt 32 (bt s (i : Int))).toNat : Int) (i : Int) ((0 : Nat) : Int)) (fun k => ?_) (specCrc_l1 s i _ 8 0 _ (by omega) (by rw [hw]; exact ih))
    simp only [spec_l01Crc.l0]
    rw [if_pos (by omega), if_pos (by omega), byteStep r _ hb.1 hb.2]
    rfl
theorem specCrc_ev (c : Int) (s : ByteArray) (hs : s.size ≤ 140737488355328) : Ev (fun k => spec_l01Crc.f k c s) (crcS c s) := by
  have h := specCrc_l0 s hs s.size 0 (~~~ (BitVec.ofInt 32 c)) (by omega)
  refine Ev.congr (fun k => ?_) h
  simp only [spec_l01Crc.f]
  rw [mod32, not32]
  rfl

theorem implCrc_l1 (s : ByteArray) (n i : Int) (R : Int) : ∀ (d j : Nat) (r : BitVec 32), j + d = 8 → Ev (fun k => impl_crcMore.l0 k ((crcBits d r).toNat : Int) s n (wrap64 (i + 1))) R → Ev (fun k => impl_crcMore.l1 k (r.toNat : Int) s n i (j : Int)) R
  | 0, j, r, h, H => Ev.step (fun k => by simp only [impl_crcMore.l1]; rw [if_neg (by omega)]; rfl) H
  | d + 1, j, r, h, H => by
    have hw : wrap64 ((j : Int) + 1) = ((j + 1 : Nat) : Int) := wrap_succ (i := j) (n := 8) (by omega) (by omega)
    refine Ev.step (f := fun k => impl_crcMore.l1 k ((crcBit r).toNat : Int) s n i ((j + 1 : Nat) : Int)) (fun k => ?_) (implCrc_l1 s n i R d (j + 1) (crcBit r) (by omega) H)
    simp only [impl_crcMore.l1]
    rw [if_pos (by omega), hw, half32 r _ _ rfl rfl, polyStep]
    unfold crcBit
    by_cases hb : r &&& 1#32 = 1#32
    · rw [if_pos ((low32 r).2 hb), if_pos hb]
    · rw [if_neg (fun h => hb ((low32 r).1 h)), if_neg hb]
theorem implCrc_l0 (s : ByteArray) (hs : s.size ≤ 140737488355328) : ∀ (d i : Nat) (r : BitVec 32), i + d = s.size → Ev (fun k => impl_crcMore.l0 k (r.toNat : Int) s (s.size : Int) (i : Int)) (((crcFrom s i d r).toNat : Nat) : Int)
  | 0, i, r, h => Ev.step (f := fun _ => some ((r.toNat : Nat) : Int)) (fun k => by
      simp only [impl_crcMore.l0]; rw [if_neg (by omega)]) (Ev.now _)
  | d + 1, i, r, h => by
    have hw := wrap_succ (i := i) (n := s.size) (by omega) hs
    have hb := bt_range s (i : Int)
    have ih := implCrc_l0 s hs d (i + 1) (crcByte r (bt s (i : Int))) (by omega)
    refine Ev.step (f := fun k => impl_crcMore.l1 k ((r ^^^ BitVec.ofInt 32 (bt s (i : Int))).toNat : Int) s (s.size : Int) (i : Int) ((0 : Nat) : Int)) (fun k => ?_) (implCrc_l1 s _ i _ 8 0 _ (by omega) (by rw [hw]; exact ih))
    simp only [impl_crcMore.l0]
    rw [if_pos (by omega), if_pos (by omega), if_pos (by omega), byteStep r _ hb.1 hb.2]
    rfl
theorem implCrc_ev (r : BitVec 32) (s : ByteArray) (hs : s.size ≤ 140737488355328) : Ev (fun k => impl_crcMore.f k (r.toNat : Int) s) (((crcFrom s 0 s.size r).toNat : Nat) : Int) :=
  implCrc_l0 s hs s.size 0 r (by omega)

theorem implCrcFn_ev (s : ByteArray) (hs : s.size ≤ 140737488355328) : Ev (fun k => impl_Crc.f k s) (if s.size > 8000 then 0 else crcS 0 s) := by
  by_cases h : s.size > 8000
  · refine Ev.congr (f := fun _ => some 0) (fun k => ?_) (by rw [if_pos h]; exact Ev.now _)
    simp only [impl_Crc.f, impl_longText.f, Option.bind_some]; rw [if_pos (by rw [decide_eq_true_eq]; omega)]
  · rw [if_neg h]
    have := implCrc_ev (~~~ (BitVec.ofInt 32 0)) s hs
    refine Ev.congr (fun k => ?_) (Ev.bind this (f := fun _ t => some (wrap64 (Go.bits .xor .u32 4294967295 t))) ?_)
    · simp only [impl_Crc.f, impl_longText.f, Option.bind_some]; rw [if_neg (by rw [decide_eq_true_eq]; omega)]; rfl
    · rw [not32', wrap_id (by omega) (by have := (~~~ (crcFrom s 0 s.size (~~~ (BitVec.ofInt 32 0)))).isLt; omega)]
      exact Ev.now _

/-- The four bytes of a number. -/
def four (c : Int) : ByteArray := strOfNums [c % 256, c / 256 % 256, c / 65536 % 256, c / 16777216 % 256]
theorem four_size (c : Int) : (four c).size = 4 := by rw [four, strOfNums_size]; rfl
/-- Seal. -/
def sealS (s : ByteArray) : ByteArray := if s.size > 7996 then ⟨#[]⟩ else s ++ four (crcS 0 s)
theorem tail_four (c : Int) : strOfNums (impl_Seal.tail c 4) = four c := by
  have h1 : c / 256 / 256 = c / 65536 := by omega
  have h2 : c / 65536 / 256 = c / 16777216 := by omega
  simp only [impl_Seal.tail, four, h1, h2]
theorem implSeal_ev (s : ByteArray) : Ev (fun k => impl_Seal.f k s) (sealS s) := by
  unfold sealS
  by_cases h : s.size > 7996
  · refine Ev.congr (f := fun _ => some _) (fun k => ?_) (by rw [if_pos h]; exact Ev.now _)
    simp only [impl_Seal.f]; rw [if_pos (by omega)]
  · rw [if_neg h]
    have h1 := implCrcFn_ev s (by omega)
    rw [if_neg (by omega)] at h1
    refine Ev.congr (fun k => by simp only [impl_Seal.f]; rw [if_neg (by omega)]) (Ev.bind h1 ?_)
    rw [tail_four]
    exact Ev.now _

theorem specSeal_ev (s : ByteArray) : Ev (fun k => spec_Seal.f k s) (sealS s) := by
  unfold sealS
  by_cases h : s.size > 7996
  · refine Ev.congr (f := fun _ => some _) (fun k => ?_) (by rw [if_pos h]; exact Ev.now _)
    simp only [spec_Seal.f]; rw [if_pos (by omega)]
  · rw [if_neg h]
    refine Ev.congr (fun k => by simp only [spec_Seal.f]; rw [if_neg (by omega)]) (Ev.bind (specCrc_ev 0 s (by omega)) ?_)
    refine Ev.congr (f := fun _ => some _) (fun k => ?_) (Ev.now _)
    simp only [spec_l01Four.f, Option.bind_some]
    have h4 := four_size (crcS 0 s)
    unfold four at h4 ⊢
    rw [if_pos (by omega)]

/-- Unseal. -/
def unsealS (s : ByteArray) : ByteArray × Int × Int :=
  if s.size > 8000 then (⟨#[]⟩, 0, 2) else if s.size < 4 then (⟨#[]⟩, 0, 4)
  else if (four (crcS 0 (s.extract 0 (s.size - 4)))).toList = (s.extract (s.size - 4) s.size).toList then (s.extract 0 (s.size - 4), 0, 0) else (⟨#[]⟩, 0, 5)
theorem own_size (s : ByteArray) : (s.extract 0 (s.size - 4)).size = s.size - 4 := by simp
theorem seal_eq_iff (s : ByteArray) (h0 : ¬ s.size > 8000) (h4 : ¬ s.size < 4) : (sealS (s.extract 0 (s.size - 4))).toList = s.toList ↔ (four (crcS 0 (s.extract 0 (s.size - 4)))).toList = (s.extract (s.size - 4) s.size).toList := by
  unfold sealS
  rw [if_neg (by rw [own_size]; omega), toList_append]
  have h := congrArg ByteArray.toList (cut_join s (s.size - 4))
  rw [toList_append] at h
  rw [← h]
  rw [List.append_cancel_left_eq]
theorem implUnseal_ev (s : ByteArray) : Ev (fun k => impl_Unseal.f k s) (unsealS s) := by
  unfold unsealS
  by_cases h : s.size > 8000
  · refine Ev.congr (f := fun _ => some _) (fun k => ?_) (by rw [if_pos h]; exact Ev.now _)
    simp only [impl_Unseal.f, impl_longText.f, Option.bind_some]; rw [if_pos (by rw [decide_eq_true_eq]; omega)]
  · rw [if_neg h]
    have hw : wrap64 ((s.size : Int) - 4) = (s.size : Int) - 4 := wrap_id (by omega) (by omega)
    by_cases h4 : s.size < 4
    · refine Ev.congr (f := fun _ => some _) (fun k => ?_) (by rw [if_pos h4]; exact Ev.now _)
      simp only [impl_Unseal.f, impl_longText.f, Option.bind_some]; rw [if_neg (by rw [decide_eq_true_eq]; omega), hw, if_pos (by omega)]
    · rw [if_neg h4]
      have hn : ((s.size : Int) - 4).toNat = s.size - 4 := by omega
      refine Ev.congr (fun k => ?_) (Ev.bind (implSeal_ev (s.extract 0 (s.size - 4))) (f := fun k t => if t.toList = s.toList then some (s.extract 0 (s.size - 4), 0, 0) else some (⟨#[]⟩, 0, 5)) ?_)
      · simp only [impl_Unseal.f, impl_longText.f, Option.bind_some]; rw [if_neg (by rw [decide_eq_true_eq]; omega), hw, if_neg (by omega), if_pos (by omega), if_pos (by omega), hn]
      · by_cases he : (sealS (s.extract 0 (s.size - 4))).toList = s.toList
        · simp only [if_pos he, if_pos ((seal_eq_iff s h h4).1 he)]
          exact Ev.now _
        · simp only [if_neg he, if_neg (fun hh => he ((seal_eq_iff s h h4).2 hh))]
          exact Ev.now _

/-- What GetNum tells of a number's bytes. -/
theorem len_data (s : ByteArray) : s.data.toList.length = s.size := by rw [Array.length_toList]; rfl
theorem bt_nat (s : ByteArray) (i : Nat) : bt s (i : Int) = ((s.data.toList.getD i 0).toNat : Int) := by
  unfold bt
  by_cases h : i < s.size
  · rw [dif_pos (by simpa using h)]
    have h2 : i < s.data.toList.length := by rw [len_data]; exact h
    simp only [Int.toNat_natCast]
    rw [List.getD_eq_getElem?_getD, List.getElem?_eq_getElem h2]
    simp [ByteArray.getElem_eq_getElem_data]
  · rw [dif_neg (by simpa using h)]
    have h2 : s.data.toList.length ≤ i := by rw [len_data]; omega
    rw [List.getD_eq_getElem?_getD, List.getElem?_eq_none h2]
    rfl
/-- The bytes of a text put together. -/
theorem data_append (a b : ByteArray) : (a ++ b).data.toList = a.data.toList ++ b.data.toList := by simp [ByteArray.data_append]
theorem data_cut (s : ByteArray) (i j : Nat) : (s.extract i j).data.toList = (s.data.toList.take j).drop i := by
  rw [ByteArray.data_extract, Array.toList_extract, List.extract_eq_take_drop, List.drop_take]
theorem bytes_ext {s t : ByteArray} (h : s.data.toList = t.data.toList) : s = t := by
  cases s; cases t; simp only at h; congr 1; exact Array.toList_inj.1 h

/-! The register: one byte turned turns the sum. -/
theorem low_iff (r : BitVec 32) : r &&& 1#32 = 1#32 ↔ r.toNat % 2 = 1 := by
  have h : (r &&& 1#32).toNat = r.toNat % 2 := by rw [BitVec.toNat_and]; exact Nat.and_one_is_mod _
  constructor
  · intro e; rw [e] at h; simpa using h.symm
  · intro e; apply BitVec.eq_of_toNat_eq; rw [h, e]; rfl
theorem half_inj {a b : BitVec 32} (h : a >>> 1 = b >>> 1) (hl : (a &&& 1#32 = 1#32) ↔ (b &&& 1#32 = 1#32)) : a = b := by
  apply BitVec.eq_of_toNat_eq
  have h1 := congrArg BitVec.toNat h
  rw [BitVec.toNat_ushiftRight, BitVec.toNat_ushiftRight, Nat.shiftRight_eq_div_pow, Nat.shiftRight_eq_div_pow] at h1
  rw [low_iff, low_iff] at hl
  omega
theorem half_top (a b : BitVec 32) : (a >>> 1) ^^^ poly ≠ b >>> 1 := by
  intro h
  have h1 := congrArg (fun r : BitVec 32 => r.getLsbD 31) h
  simp only [BitVec.getLsbD_xor, BitVec.getLsbD_ushiftRight] at h1
  rw [BitVec.getLsbD_of_ge a (1 + 31) (by omega), BitVec.getLsbD_of_ge b (1 + 31) (by omega)] at h1
  revert h1
  decide
theorem crcBit_inj {a b : BitVec 32} (h : crcBit a = crcBit b) : a = b := by
  unfold crcBit at h
  by_cases ha : a &&& 1#32 = 1#32
  · by_cases hb : b &&& 1#32 = 1#32
    · rw [if_pos ha, if_pos hb] at h
      refine half_inj ?_ ⟨fun _ => hb, fun _ => ha⟩
      have := congrArg (fun r => r ^^^ poly) h
      simpa [BitVec.xor_assoc] using this
    · rw [if_pos ha, if_neg hb] at h
      exact absurd h (half_top a b)
  · by_cases hb : b &&& 1#32 = 1#32
    · rw [if_neg ha, if_pos hb] at h
      exact absurd h.symm (half_top b a)
    · rw [if_neg ha, if_neg hb] at h
      exact half_inj h ⟨fun h => absurd h ha, fun h => absurd h hb⟩
theorem crcBits_inj : ∀ (d : Nat) {a b : BitVec 32}, crcBits d a = crcBits d b → a = b
  | 0, _, _, h => h
  | d + 1, _, _, h => crcBit_inj (crcBits_inj d h)
theorem xor_left_inj {a b c : BitVec 32} (h : a ^^^ b = a ^^^ c) : b = c := by
  have := congrArg (fun r => a ^^^ r) h
  simpa [← BitVec.xor_assoc] using this
theorem crcByte_inj {a b : BitVec 32} (x : Int) (h : crcByte a x = crcByte b x) : a = b := by
  have := crcBits_inj 8 h
  rw [BitVec.xor_comm, BitVec.xor_comm b] at this
  exact xor_left_inj this
theorem crcByte_inj2 {a : BitVec 32} {x y : Int} (hx : 0 ≤ x ∧ x ≤ 255) (hy : 0 ≤ y ∧ y ≤ 255) (h : crcByte a x = crcByte a y) : x = y := by
  have := congrArg BitVec.toNat (xor_left_inj (crcBits_inj 8 h))
  rw [BitVec.toNat_ofInt, BitVec.toNat_ofInt] at this
  omega
theorem crcFrom_ne (s t : ByteArray) : ∀ (d i : Nat) (a b : BitVec 32), (∀ j, i ≤ j → bt s (j : Int) = bt t (j : Int)) → a ≠ b → crcFrom s i d a ≠ crcFrom t i d b
  | 0, _, _, _, _, h => h
  | d + 1, i, a, b, hb, h => by
    unfold crcFrom
    refine crcFrom_ne s t d (i + 1) _ _ (fun j hj => hb j (by omega)) ?_
    rw [hb i (by omega)]
    exact fun e => h (crcByte_inj _ e)
theorem crcFrom_one (s t : ByteArray) (p : Nat) (hp : bt s (p : Int) ≠ bt t (p : Int)) (hb : ∀ j, j ≠ p → bt s (j : Int) = bt t (j : Int)) : ∀ (d i : Nat) (a : BitVec 32), i ≤ p → p < i + d → crcFrom s i d a ≠ crcFrom t i d a
  | 0, i, _, h0, h1 => by omega
  | d + 1, i, a, h0, h1 => by
    unfold crcFrom
    by_cases e : i = p
    · subst e
      refine crcFrom_ne s t d (i + 1) _ _ (fun j hj => hb j (by omega)) ?_
      exact fun e => hp (crcByte_inj2 (bt_range _ _) (bt_range _ _) e)
    · rw [hb i e]
      exact crcFrom_one s t p hp hb d (i + 1) _ (by omega) (by omega)
theorem crcS_one (s t : ByteArray) (p : Nat) (hz : s.size = t.size) (h : p < t.size) (hp : bt s (p : Int) ≠ bt t (p : Int)) (hb : ∀ j, j ≠ p → bt s (j : Int) = bt t (j : Int)) : crcS 0 s ≠ crcS 0 t := by
  unfold crcS
  intro e
  rw [hz] at e
  refine crcFrom_one s t p hp hb t.size 0 (~~~ (BitVec.ofInt 32 0)) (by omega) (by omega) ?_
  have h1 := BitVec.eq_of_toNat_eq (Int.ofNat.inj e)
  have h2 := congrArg (fun r : BitVec 32 => ~~~ r) h1
  simpa using h2
theorem crcS_range (c : Int) (s : ByteArray) : 0 ≤ crcS c s ∧ crcS c s ≤ 4294967295 := by
  unfold crcS
  have := (~~~ (crcFrom s 0 s.size (~~~ (BitVec.ofInt 32 c)))).isLt
  omega
/-- Text behind text. -/
theorem crcFrom_congr (s t : ByteArray) (e : Nat) : ∀ (d i : Nat) (a : BitVec 32), (∀ j, i ≤ j → j < i + d → bt s ((j + e : Nat) : Int) = bt t (j : Int)) → crcFrom s (i + e) d a = crcFrom t i d a
  | 0, _, _, _ => rfl
  | d + 1, i, a, hb => by
    unfold crcFrom
    rw [hb i (by omega) (by omega), show i + e + 1 = (i + 1) + e by omega]
    exact crcFrom_congr s t e d (i + 1) _ (fun j h0 h1 => hb j (by omega) (by omega))
theorem crcFrom_split (s : ByteArray) : ∀ (d d' i : Nat) (a : BitVec 32), crcFrom s i (d + d') a = crcFrom s (i + d) d' (crcFrom s i d a)
  | 0, d', i, a => by rw [Nat.zero_add]; rfl
  | d + 1, d', i, a => by
    rw [show d + 1 + d' = (d + d') + 1 by omega]
    simp only [crcFrom]
    rw [crcFrom_split s d d' (i + 1), show i + 1 + d = i + (d + 1) by omega]
theorem bt_left (a b : ByteArray) (j : Nat) (h : j < a.size) : bt (a ++ b) (j : Int) = bt a (j : Int) := by
  rw [bt_nat, bt_nat, data_append, List.getD_eq_getElem?_getD, List.getElem?_append_left (by rw [len_data]; exact h), ← List.getD_eq_getElem?_getD]
theorem bt_right (a b : ByteArray) (j : Nat) : bt (a ++ b) ((j + a.size : Nat) : Int) = bt b (j : Int) := by
  rw [bt_nat, bt_nat, data_append, List.getD_eq_getElem?_getD, List.getElem?_append_right (by rw [len_data]; omega), len_data, Nat.add_sub_cancel, ← List.getD_eq_getElem?_getD]
theorem crcS_more (t u : ByteArray) : crcS (crcS 0 t) u = crcS 0 (t ++ u) := by
  unfold crcS
  rw [ByteArray.size_append, crcFrom_split, of32, BitVec.not_not]
  have h1 := crcFrom_congr (t ++ u) t 0 t.size 0 (~~~ (BitVec.ofInt 32 0)) (fun j _ h => by rw [Nat.add_zero]; exact bt_left t u j (by omega))
  have h2 := fun a => crcFrom_congr (t ++ u) u t.size u.size 0 a (fun j _ h => bt_right t u j)
  rw [Nat.add_zero] at h1
  rw [h1, h2]

theorem toList_ext {a b : ByteArray} (h : a.toList = b.toList) : a = b := bytes_ext (by rw [← toList_data, ← toList_data, h])
theorem four_inj {c d : Int} (h0 : 0 ≤ c ∧ c ≤ 4294967295) (h1 : 0 ≤ d ∧ d ≤ 4294967295) (h : four c = four d) : c = d := by
  have h2 := congrArg (fun b : ByteArray => b.data.toList) h
  simp only [four, strOfNums_data, List.map_cons, List.map_nil, List.cons.injEq, and_true] at h2
  obtain ⟨e0, e1, e2, e3⟩ := h2
  have f := fun (x y : Int) (hx : 0 ≤ x ∧ x < 256) (hy : 0 ≤ y ∧ y < 256) (e : UInt8.ofNat x.toNat = UInt8.ofNat y.toNat) => show x = y from by
    have := congrArg UInt8.toNat e
    rw [UInt8.toNat_ofNat', UInt8.toNat_ofNat'] at this
    omega
  have g0 := f _ _ (by omega) (by omega) e0
  have g1 := f _ _ (by omega) (by omega) e1
  have g2 := f _ _ (by omega) (by omega) e2
  have g3 := f _ _ (by omega) (by omega) e3
  omega
theorem sealS_split (t : ByteArray) (h : t.size ≤ 7996) : sealS t = t ++ four (crcS 0 t) := by unfold sealS; rw [if_neg (by omega)]
theorem sealS_size (t : ByteArray) (h : t.size ≤ 7996) : (sealS t).size = t.size + 4 := by rw [sealS_split t h, ByteArray.size_append, four_size]
theorem head_data (t f : ByteArray) (h : f.size = 4) : (t ++ f).extract 0 ((t ++ f).size - 4) = t := by
  apply bytes_ext
  rw [data_cut, data_append, List.drop_zero, ByteArray.size_append, h, show t.size + 4 - 4 = t.size by omega, List.take_append_of_le_length (by rw [len_data]; omega), List.take_of_length_le (by rw [len_data]; omega)]
theorem tail_data (t f : ByteArray) (h : f.size = 4) : (t ++ f).extract ((t ++ f).size - 4) (t ++ f).size = f := by
  apply bytes_ext
  rw [data_cut, data_append, ByteArray.size_append, h, show t.size + 4 - 4 = t.size by omega, List.take_of_length_le (by rw [List.length_append, len_data, len_data]; omega), List.drop_append_of_le_length (by rw [len_data]; omega), List.drop_of_length_le (by rw [len_data]; omega), List.nil_append]
/-- A sealed text's own text. -/
theorem unseal_seal (t : ByteArray) (h : t.size ≤ 7996) : unsealS (sealS t) = (t, 0, 0) := by
  have hz := sealS_size t h
  unfold unsealS
  rw [if_neg (by omega), if_neg (by omega)]
  rw [sealS_split t h, head_data _ _ (four_size _), tail_data _ _ (four_size _), if_pos rfl]
/-- One byte of a sealed text turned: it is refused. -/
theorem unseal_turned (t s : ByteArray) (h : t.size ≤ 7996) (p : Nat) (hp : p < t.size + 4) (b : UInt8) (hs : s.data.toList = (sealS t).data.toList.set p b) (hb : (sealS t).data.toList.getD p 0 ≠ b) : (unsealS s).2.2 = 5 := by
  have hz : s.size = t.size + 4 := by rw [← len_data, hs, List.length_set, len_data, sealS_size t h]
  have hc := crcS_range 0 t
  unfold unsealS
  rw [if_neg (by omega), if_neg (by omega)]
  rw [sealS_split t h, data_append] at hs hb
  have lt := len_data t
  have lf : (four (crcS 0 t)).data.toList.length = 4 := by rw [len_data, four_size]
  have hh : (s.extract 0 (s.size - 4)).data.toList = s.data.toList.take t.size := by rw [data_cut, List.drop_zero, hz, show t.size + 4 - 4 = t.size by omega]
  have ht : (s.extract (s.size - 4) s.size).data.toList = s.data.toList.drop t.size := by rw [data_cut, hz, show t.size + 4 - 4 = t.size by omega, List.take_of_length_le (by rw [len_data]; omega)]
  rw [if_neg]
  intro e
  replace e := toList_ext e
  by_cases hpt : p < t.size
  · -- in the text
    rw [List.set_append_left _ _ (by omega)] at hs
    rw [List.getD_eq_getElem?_getD, List.getElem?_append_left (by omega), ← List.getD_eq_getElem?_getD] at hb
    rw [hs, List.take_append_of_le_length (by rw [List.length_set]; omega), List.take_of_length_le (by rw [List.length_set]; omega)] at hh
    rw [hs, List.drop_append_of_le_length (by rw [List.length_set]; omega), List.drop_of_length_le (by rw [List.length_set]; omega), List.nil_append] at ht
    have e2 := four_inj (crcS_range 0 _) hc (e.trans (bytes_ext ht))
    refine crcS_one (s.extract 0 (s.size - 4)) t p (by rw [← len_data, hh, List.length_set, lt]) hpt ?_ ?_ e2
    · rw [bt_nat, bt_nat, hh, List.getD_eq_getElem?_getD, List.getElem?_set_self (by omega)]
      intro e3
      refine hb ?_
      have : b.toNat = (t.data.toList.getD p 0).toNat := by simpa using Int.ofNat.inj e3
      exact (UInt8.toNat_inj.1 this).symm
    · intro j hj
      rw [bt_nat, bt_nat, hh, List.getD_eq_getElem?_getD, List.getElem?_set_ne (Ne.symm hj), ← List.getD_eq_getElem?_getD]
  · -- in the sum
    rw [List.set_append_right _ _ (by omega)] at hs
    rw [List.getD_eq_getElem?_getD, List.getElem?_append_right (by omega), ← List.getD_eq_getElem?_getD] at hb
    rw [hs, List.take_append_of_le_length (by omega), List.take_of_length_le (by omega)] at hh
    rw [hs, List.drop_append_of_le_length (by omega), List.drop_of_length_le (by omega), List.nil_append] at ht
    rw [bytes_ext hh] at e
    rw [← e] at ht
    have := congrArg (fun l : List UInt8 => l.getD (p - t.data.toList.length) 0) ht
    rw [List.getD_eq_getElem?_getD (l := List.set _ _ _), List.getElem?_set_self (by omega)] at this
    exact hb this
/-- The byte turned is another one. -/
theorem xor8_ne (v m : Int) (h0 : 1 ≤ m) (h1 : m ≤ 255) (hv : 0 ≤ v ∧ v ≤ 255) : 0 ≤ Go.bits .xor .u8 v m ∧ Go.bits .xor .u8 v m ≤ 255 ∧ Go.bits .xor .u8 v m ≠ v := by
  have e : Go.bits .xor .u8 v m = IntKind.u8.wrap ((BitVec.ofInt 8 v ^^^ BitVec.ofInt 8 m).toNat : Int) := rfl
  have l := (BitVec.ofInt 8 v ^^^ BitVec.ofInt 8 m).isLt
  rw [e, u8w]
  refine ⟨by omega, by omega, fun h => ?_⟩
  have h2 : (BitVec.ofInt 8 v ^^^ BitVec.ofInt 8 m).toNat = (BitVec.ofInt 8 v).toNat := by rw [BitVec.toNat_ofInt]; omega
  have h3 := BitVec.eq_of_toNat_eq h2
  have h4 := congrArg (fun r => BitVec.ofInt 8 v ^^^ r) h3
  simp only [← BitVec.xor_assoc, BitVec.xor_self, BitVec.zero_xor] at h4
  have h5 := congrArg BitVec.toNat h4
  rw [BitVec.toNat_ofInt] at h5
  simp at h5
  omega

/-- CrcMore. -/
def crcMoreS (c : Int) (s : ByteArray) : Int := if s.size > 8000 ∨ c < 0 ∨ c > 4294967295 then 0 else crcS c s
theorem bitLenAux_le : ∀ f x : Nat, Go.Lib.bitLenAux f x ≤ f
  | 0, x => by simp [Go.Lib.bitLenAux]
  | f + 1, x => by
    have := bitLenAux_le f (x / 2)
    unfold Go.Lib.bitLenAux
    split <;> omega
theorem bitLen_32 (x : Nat) (h : x < 18446744073709551616) : 32 < Go.Lib.bitLen x ↔ 4294967296 ≤ x := by
  constructor
  · intro h1
    rcases Nat.lt_or_ge x 4294967296 with h2 | h2
    · have := Go.Lib.bitLenAux_fuel 32 x (by simpa using h2) 64 (by omega)
      have h3 := bitLenAux_le 32 x
      unfold Go.Lib.bitLen at h1
      omega
    · exact h2
  · intro h1
    have h2 := Go.Lib.bitLen_shift32 x h1 h
    have h3 := Go.Lib.bitLen_half (x / 4294967296) (by omega) (by omega)
    omega
theorem specCrcMore_ev (c : Int) (s : ByteArray) (hs : s.size ≤ 140737488355328) : Ev (fun k => spec_CrcMore.f k c s) (crcMoreS c s) := by
  unfold crcMoreS
  by_cases h1 : (s.size : Int) > 8000
  · rw [if_pos (.inl (by omega))]
    exact Ev.congr (f := fun _ => some 0) (fun k => by simp only [spec_CrcMore.f]; rw [if_pos h1]) (Ev.now _)
  · by_cases h2 : c < 0
    · rw [if_pos (.inr (.inl h2))]
      exact Ev.congr (f := fun _ => some 0) (fun k => by simp only [spec_CrcMore.f]; rw [if_neg h1, if_pos h2]) (Ev.now _)
    · by_cases h3 : c > 4294967295
      · rw [if_pos (.inr (.inr h3))]
        exact Ev.congr (f := fun _ => some 0) (fun k => by simp only [spec_CrcMore.f]; rw [if_neg h1, if_neg h2, if_pos h3]) (Ev.now _)
      · rw [if_neg (by omega)]
        exact Ev.congr (fun k => by simp only [spec_CrcMore.f]; rw [if_neg h1, if_neg h2, if_neg h3]) (Ev.bind (specCrc_ev c s hs) (Ev.now _))
theorem implCrcMore_ev (c : Int) (s : ByteArray) (hc : c ≤ 9223372036854775807) (hs : s.size ≤ 140737488355328) : Ev (fun k => impl_CrcMore.f k c s) (crcMoreS c s) := by
  unfold crcMoreS
  simp only [impl_CrcMore.f, impl_longText.f, Option.bind_some, decide_eq_true_eq]
  by_cases h1 : (s.size : Int) > 8000
  · rw [if_pos (.inl (by omega))]
    simp only [if_pos h1]
    exact Ev.now _
  · simp only [if_neg h1]
    by_cases h2 : c < 0
    · rw [if_pos (.inr (.inl h2))]
      simp only [if_pos h2]
      exact Ev.now _
    · simp only [if_neg h2]
      have e : IntKind.u64.wrap c = c := by rw [u64w]; omega
      have hb := bitLen_32 c.toNat (by omega)
      simp only [bits_Len64.f, e, if_pos (show 0 ≤ c by omega), if_pos (show c ≤ 18446744073709551615 by omega), Option.bind_some]
      by_cases h3 : c > 4294967295
      · rw [if_pos (.inr (.inr h3))]
        simp only [if_pos (show (Go.Lib.bitLen c.toNat : Int) > 32 by have := hb.2 (by omega); omega)]
        exact Ev.now _
      · rw [if_neg (by omega)]
        simp only [if_neg (show ¬ (Go.Lib.bitLen c.toNat : Int) > 32 by intro h; have := hb.1 (by omega); omega)]
        have := implCrc_ev (~~~ (BitVec.ofInt 32 c)) s hs
        refine Ev.congr (fun k => ?_) (Ev.bind this (f := fun _ t => some (wrap64 (Go.bits .xor .u32 4294967295 t))) ?_)
        · rw [mod32, not32']
        · rw [not32', wrap_id (by omega) (by have := (~~~ (crcFrom s 0 s.size (~~~ (BitVec.ofInt 32 c)))).isLt; omega)]
          exact Ev.now _

theorem specCrcFn_ev (s : ByteArray) (hs : s.size ≤ 140737488355328) : Ev (fun k => spec_Crc.f k s) (if s.size > 8000 then 0 else crcS 0 s) := by
  by_cases h : s.size > 8000
  · refine Ev.congr (f := fun _ => some 0) (fun k => ?_) (by rw [if_pos h]; exact Ev.now _)
    simp only [spec_Crc.f]; rw [if_pos (by omega)]
  · rw [if_neg h]
    refine Ev.congr (fun k => by simp only [spec_Crc.f]; rw [if_neg (by omega)]) (Ev.bind (specCrc_ev 0 s hs) (Ev.now _))

theorem evSome {α β : Type} {o : Option α} {x : α} {f : Nat → α → Option β} {r : β} (h : o = some x) (k : Ev (fun n => f n x) r) : Ev (fun n => o.bind (f n)) r := by subst h; exact k
/-- What is drawn lies below what was asked for; the place stays within the bytes. -/
theorem src_val (v m a : Int) (h : 1 < a) (h2 : a ≤ 9223372036854775807) : 0 ≤ spec_l01Src_n.val v m a ∧ spec_l01Src_n.val v m a < a := by
  unfold spec_l01Src_n.val
  rw [u64w, u64w, show a % 18446744073709551616 = a by omega, Int.tmod_eq_emod_of_nonneg (by omega)]
  have h3 := Int.emod_nonneg ((v + m / 1048576) % 18446744073709551616) (show a ≠ 0 by omega)
  have h4 := Int.emod_lt_of_pos ((v + m / 1048576) % 18446744073709551616) (show 0 < a by omega)
  rw [wrap_id (by omega) (by omega)]
  exact ⟨h3, h4⟩
theorem src_n (b : List Int) (p m z a : Int) (hb : b.length ≤ 9223372036854775807) (h0 : 0 ≤ p) (h1 : p ≤ b.length) (ha : a ≤ 9223372036854775807) :
    ∃ r p' m', spec_l01Src_n.f b p m z a = some (r, p', m', z) ∧ 0 ≤ r ∧ (r < a ∨ r = 0) ∧ 0 ≤ p' ∧ p' ≤ b.length := by
  unfold spec_l01Src_n.f
  by_cases h : a ≤ 1
  · exact ⟨0, p, m, by rw [if_pos h], by omega, .inr rfl, h0, h1⟩
  · rw [if_neg h, if_neg (by rw [u64w]; omega)]
    by_cases h2 : p < (b.length : Int)
    · obtain ⟨h3, h4⟩ := src_val (IntKind.u64.wrap (rd b p)) (spec_l01Src_n.mx m) a (by omega) ha
      exact ⟨_, _, _, by rw [if_pos h2, if_pos h0, wrap_id (by omega) (by omega)], h3, .inl h4, by omega, by omega⟩
    · obtain ⟨h3, h4⟩ := src_val 0 (spec_l01Src_n.mx m) a (by omega) ha
      exact ⟨_, _, _, by rw [if_neg h2], h3, .inl h4, h0, h1⟩
theorem src_loop (l : List Int) (hl : l.length ≤ 9223372036854775807) : ∀ (d i : Nat) (m : Int), i + d = 64 → ∃ m' z, Ev (fun k => spec_l01Source.l0 k l (i : Int) l 0 m 0) (l, 0, m', z) ∧ 0 ≤ z ∧ z ≤ 12
  | d, i, m, h => by
    have hz : ∃ z, (∀ m' : Int, (if (wrap64 ((l.length : Int) / 20)) > 12 then (some (l, (0 : Int), m', (12 : Int))) else (some (l, 0, m', wrap64 ((l.length : Int) / 20)))) = some (l, 0, m', z)) ∧ 0 ≤ z ∧ z ≤ 12 := by
      rw [wrap_id (x := (l.length : Int) / 20) (by omega) (by omega)]
      by_cases h12 : (l.length : Int) / 20 > 12
      · exact ⟨12, fun m' => by rw [if_pos h12], by omega, by omega⟩
      · exact ⟨(l.length : Int) / 20, fun m' => by rw [if_neg h12], by omega, by omega⟩
    obtain ⟨z, hz, z0, z1⟩ := hz
    by_cases h1 : (i : Int) < (l.length : Int)
    · match d, h with
      | 0, h => exact ⟨m, z, Ev.step (f := fun _ => some (l, 0, m, z)) (fun k => by simp only [spec_l01Source.l0]; rw [if_pos h1, if_neg (by omega)]; exact hz m) (Ev.now _), z0, z1⟩
      | d + 1, h =>
        obtain ⟨m', z', hE, a0, a1⟩ := src_loop l hl d (i + 1) (IntKind.u64.wrap ((Go.bits .xor .u64 m (IntKind.u64.wrap (rd l (i : Int)))) * 1099511628211)) (by omega)
        exact ⟨m', z', Ev.step (fun k => by simp only [spec_l01Source.l0]; rw [if_pos h1, if_pos (by omega), if_pos (by omega), wrap_id (x := (i : Int) + 1) (by omega) (by omega)]; rfl) hE, a0, a1⟩
    · exact ⟨m, z, Ev.step (f := fun _ => some (l, 0, m, z)) (fun k => by simp only [spec_l01Source.l0]; rw [if_neg h1]; exact hz m) (Ev.now _), z0, z1⟩
theorem src_source (l : List Int) (hl : l.length ≤ 9223372036854775807) : ∃ m z, Ev (fun k => spec_l01Source.f k l) (l, 0, m, z) ∧ 0 ≤ z ∧ z ≤ 12 := by
  obtain ⟨m, z, h, z0, z1⟩ := src_loop l hl 64 0 88172645463325252 (by omega)
  exact ⟨m, z, Ev.congr (fun k => rfl) h, z0, z1⟩

theorem src_one (b : List Int) (p m z a : Int) (hb : b.length ≤ 9223372036854775807) (h0 : 0 ≤ p) (h1 : p ≤ b.length) (ha : a ≤ 9223372036854775807) :
    ∃ c p' m', spec_l01Src_one.f b p m z a = some (c, p', m', z) ∧ 0 ≤ p' ∧ p' ≤ b.length := by
  obtain ⟨r, p', m', h, _, _, h2, h3⟩ := src_n b p m z a hb h0 h1 ha
  exact ⟨r == 0, p', m', by unfold spec_l01Src_one.f; rw [h]; rfl, h2, h3⟩

theorem src_edge (b : List Int) (p m z : Int) (hb : b.length ≤ 9223372036854775807) (h0 : 0 ≤ p) (h1 : p ≤ b.length) :
    ∃ r p' m', spec_l01Src_edge.f b p m z = some (r, p', m', z) ∧ -9223372036854775808 ≤ r ∧ r ≤ 9223372036854775807 ∧ 0 ≤ p' ∧ p' ≤ b.length := by
  obtain ⟨r, p', m', h, h4, h5, h2, h3⟩ := src_n b p m z 14 hb h0 h1 (by omega)
  obtain ⟨q, rfl⟩ : ∃ q : Nat, r = (q : Int) := ⟨r.toNat, by omega⟩
  have hq : q < 14 := by omega
  refine ⟨_, p', m', by unfold spec_l01Src_edge.f; rw [Option.bind_some, h, Option.bind_some]; simp only []; rw [if_pos h4, if_pos (by simp only [List.length_cons, List.length_nil]; omega)], ?_, ?_, h2, h3⟩ <;>
  · rw [rd_nat]
    have : q = 0 ∨ q = 1 ∨ q = 2 ∨ q = 3 ∨ q = 4 ∨ q = 5 ∨ q = 6 ∨ q = 7 ∨ q = 8 ∨ q = 9 ∨ q = 10 ∨ q = 11 ∨ q = 12 ∨ q = 13 := by omega
    rcases this with h | h | h | h | h | h | h | h | h | h | h | h | h | h <;> subst h <;> simp

theorem src_bytes_l (b : List Int) (z : Int) (n : Nat) (hn : n ≤ 1000000) (hb : b.length ≤ 9223372036854775807) : ∀ (d i : Nat) (xs : List Int) (p m : Int), i + d = n → xs.length = i → 0 ≤ p → p ≤ b.length →
    ∃ t p' m', Ev (fun k => spec_l01Src_bytes.l0 k (n : Int) xs (i : Int) b p m z) (t, p', m', z) ∧ t.size = n ∧ 0 ≤ p' ∧ p' ≤ b.length
  | 0, i, xs, p, m, h, hx, h0, h1 => ⟨strOfNums xs, p, m, Ev.step (f := fun _ => some (strOfNums xs, p, m, z)) (fun k => by simp only [spec_l01Src_bytes.l0]; rw [if_neg (by omega)]) (Ev.now _), by rw [strOfNums_size]; omega, h0, h1⟩
  | d + 1, i, xs, p, m, h, hx, h0, h1 => by
    obtain ⟨r, p', m', h4, h5, h6, h7, h8⟩ := src_n b p m z 256 hb h0 h1 (by omega)
    obtain ⟨t, p2, m2, hE, ht, h9, h10⟩ := src_bytes_l b z n hn hb d (i + 1) (xs ++ [r % 256]) p' m' (by omega) (by simp; omega) h7 h8
    refine ⟨t, p2, m2, Ev.step (fun k => ?_) hE, ht, h9, h10⟩
    simp only [spec_l01Src_bytes.l0]
    rw [if_pos (by omega), h4, Option.bind_some]
    simp only []
    rw [if_pos (by omega), wrap_succ (n := n) (by omega) (by omega)]
theorem src_bytes (b : List Int) (z : Int) (n : Int) (hn0 : 0 ≤ n) (hn : n ≤ 1000000) (hb : b.length ≤ 9223372036854775807) (p m : Int) (h0 : 0 ≤ p) (h1 : p ≤ b.length) :
    ∃ t p' m', Ev (fun k => spec_l01Src_bytes.f k b p m z n) (t, p', m', z) ∧ t.size = n.toNat ∧ 0 ≤ p' ∧ p' ≤ b.length := by
  obtain ⟨t, p', m', hE, h2, h3, h4⟩ := src_bytes_l b z n.toNat (by omega) hb n.toNat 0 [] p m (by omega) rfl h0 h1
  rw [Int.toNat_of_nonneg hn0] at hE
  exact ⟨t, p', m', Ev.congr (fun k => rfl) hE, h2, h3, h4⟩

theorem u8wf {x : Int} (h : (Lit.int .u8 x).wf = true) : 0 ≤ x ∧ x ≤ 255 := by
  simpa [Lit.wf, IntKind.min, IntKind.max, IntKind.signed, IntKind.bits] using h
theorem lwAt_ok (l : List Int) (hw : ∀ y ∈ l, (Lit.int .u8 y).wf = true) (hl : l.length ≤ 9223372036854775807) (a : Nat) (m : Int) (h0 : 0 < m) (h1 : m ≤ 9223372036854775807) : ∃ r, laws_lwAt.f l (a : Int) m = some r ∧ 0 ≤ r ∧ r < m := by
  unfold laws_lwAt.f
  by_cases hm : m ≤ 1
  · exact ⟨0, by rw [if_pos hm], by omega, by omega⟩
  rw [if_neg hm]
  by_cases hz : (l.length : Int) = 0
  · exact ⟨0, by rw [if_pos hz], by omega, by omega⟩
  rw [if_neg hz]
  have ht : Int.tmod (a : Int) (l.length : Int) = ((a % l.length : Nat) : Int) := by rw [Int.tmod_eq_emod_of_nonneg (by omega)]; rfl
  have hlt : a % l.length < l.length := Nat.mod_lt _ (by omega)
  rw [ht, if_pos (by omega), if_pos (by omega), if_neg (by omega), rd_nat]
  have hb := u8wf (hw _ (List.getElem_mem hlt))
  have hg : l.getD (a % l.length) 0 = l[a % l.length] := by rw [List.getD_eq_getElem?_getD, List.getElem?_eq_getElem hlt]; rfl
  rw [hg, wrap_id (by omega) (by omega), Int.tmod_eq_emod_of_nonneg hb.1]
  exact ⟨_, rfl, Int.emod_nonneg _ (by omega), Int.emod_lt_of_pos _ h0⟩

theorem drawSealed (l : List Int) (hl : l.length ≤ 9223372036854775807) : ∃ t, Ev (fun k => spec_DrawSeal.f k l) t ∧ t.size ≤ 20000 := by
  obtain ⟨m, z, h, _, _⟩ := src_source l hl
  obtain ⟨c, p, m1, h2, h3, h4⟩ := src_one l 0 m z 30 hl (by omega) (by omega) (by omega)
  cases c
  · obtain ⟨r, p2, m2, h5, h6, h7, h8, h9⟩ := src_n l p m1 z 20 hl h3 h4 (by omega)
    obtain ⟨t, p3, m3, hE, ht, _, _⟩ := src_bytes l z r h6 (by omega) hl p2 m2 h8 h9
    refine ⟨t, Ev.congr (fun k => rfl) (Ev.bind h (evSome h2 (evElse Bool.false_ne_true (evSome h5 (Ev.bind hE (Ev.now _)))))), by omega⟩
  · obtain ⟨r, p2, m2, h5, h6, h7, h8, h9⟩ := src_n l p m1 z 3 hl h3 h4 (by omega)
    refine ⟨_, Ev.congr (fun k => rfl) (Ev.bind h (evSome h2 (evIf rfl (evSome h5 (by
      simp only []
      rw [wrap_id (x := 19995 + r) (by omega) (by omega), if_pos (by omega), if_pos (by omega)]; exact Ev.now _))))), ?_⟩
    rw [strOfNums_size, List.length_replicate]; omega
theorem drawMore (l : List Int) (hl : l.length ≤ 9223372036854775807) : ∃ c t, Ev (fun k => spec_DrawCrcMore.f k l) (c, t) ∧ t.size ≤ 9 ∧ c ≤ 9223372036854775807 := by
  obtain ⟨m, z, h, _, _⟩ := src_source l hl
  obtain ⟨r, p1, m1, h1, r0, r1, q0, q1⟩ := src_n l 0 m z 9 hl (by omega) (by omega) (by omega)
  obtain ⟨t, p2, m2, h2, ht, s0, s1⟩ := src_bytes l z r r0 (by omega) hl p1 m1 q0 q1
  obtain ⟨b, p3, m3, h3, u0, u1⟩ := src_one l p2 m2 z 5 hl s0 s1 (by omega)
  cases b
  · obtain ⟨r', p4, m4, h4, v0, v1, x0, x1⟩ := src_n l p3 m3 z 9 hl u0 u1 (by omega)
    obtain ⟨t', p5, m5, h5, ht', _, _⟩ := src_bytes l z r' v0 (by omega) hl p4 m4 x0 x1
    have hc := specCrcFn_ev t' (by omega)
    have hr := crcS_range 0 t'
    refine ⟨_, t, Ev.congr (fun k => rfl) (Ev.bind h (evSome h1 (Ev.bind h2 (evSome h3 (evElse Bool.false_ne_true (evSome h4 (Ev.bind h5 (Ev.bind hc (Ev.now _))))))))), by omega, ?_⟩
    split <;> omega
  · obtain ⟨e, p4, m4, h4, e0, e1, _, _⟩ := src_edge l p3 m3 z hl u0 u1
    exact ⟨e, t, Ev.congr (fun k => rfl) (Ev.bind h (evSome h1 (Ev.bind h2 (evSome h3 (evIf rfl (evSome h4 (Ev.now _))))))), by omega, e1⟩
theorem seal_fin (t : ByteArray) (l : List Int) (hl : l.length ≤ 9223372036854775807) (ht : t.size ≤ 20000) : Ev (fun k => laws_FnSeal.fin k t l) true := by
  obtain ⟨c, u, hd, hu, hc⟩ := drawMore l hl
  refine Ev.congr (fun k => rfl) (Ev.bind hd (evIf ⟨by omega, by simp only []; omega⟩ ?_))
  by_cases hb : t.size + u.size > 8000
  · exact evIf hb (Ev.now _)
  · refine evElse hb (Ev.bind (implCrcMore_ev c u hc (by omega)) (Ev.bind (specCrcMore_ev c u (by omega)) (evIf rfl ?_)))
    have h1 := implCrcFn_ev t (by omega)
    have h3 := implCrcFn_ev (t ++ u) (by rw [ByteArray.size_append]; omega)
    rw [if_neg (by omega)] at h1
    rw [if_neg (by rw [ByteArray.size_append]; omega)] at h3
    have hr := crcS_range 0 t
    refine Ev.bind h1 (Ev.bind (implCrcMore_ev (crcS 0 t) u (by omega) (by omega)) (Ev.bind h3 (evIf ?_ (Ev.now _))))
    unfold crcMoreS
    rw [if_neg (by omega), crcS_more]
theorem bytesOf_data (s : ByteArray) : (Go.Proofs.YtkgjikjnciihmaaH.bytesOf s).map (fun n => UInt8.ofNat n.toNat) = s.data.toList := by
  unfold Go.Proofs.YtkgjikjnciihmaaH.bytesOf
  rw [List.map_map]
  conv => rhs; rw [← List.map_id s.data.toList]
  congr 1
  funext b
  simp
theorem flip_data (s : ByteArray) (j : Nat) (x : Int) : (laws_FnSeal.flip s (j : Int) x).data.toList = s.data.toList.set j (UInt8.ofNat (laws_FnSeal.turn s (j : Int) x).toNat) := by
  unfold laws_FnSeal.flip
  rw [strOfNums_data, List.map_set, bytesOf_data]
  rfl
theorem turn_ne (s : ByteArray) (j : Nat) (x : Int) (h0 : 0 ≤ x) (h1 : x < 255) : s.data.toList.getD j 0 ≠ UInt8.ofNat (laws_FnSeal.turn s (j : Int) x).toNat := by
  have hv : (Go.Proofs.YtkgjikjnciihmaaH.bytesOf s).getD j 0 = ((s.data.toList.getD j 0).toNat : Int) := by
    unfold Go.Proofs.YtkgjikjnciihmaaH.bytesOf
    rw [List.getD_eq_getElem?_getD, List.getD_eq_getElem?_getD, List.getElem?_map]
    cases s.data.toList[j]? <;> rfl
  have hlt := (s.data.toList.getD j 0).toNat_lt
  unfold laws_FnSeal.turn
  rw [show ((j : Int)).toNat = j from rfl, hv, u8w, i64_w, wrap_id (by omega) (by omega), show (1 + x) % 256 = 1 + x by omega]
  obtain ⟨a0, a1, a2⟩ := xor8_ne ((s.data.toList.getD j 0).toNat : Int) (1 + x) (by omega) (by omega) (by omega)
  intro e
  have := congrArg UInt8.toNat e
  rw [UInt8.toNat_ofNat'] at this
  omega
theorem FnSeal : laws_FnSeal.Goal := by
  intro l0 l1 hl0 _ hl1 hw1
  by_cases hb : (l0.length : Int) > 1048576 ∨ (l1.length : Int) > 1048576
  · exact ⟨0, by unfold laws_FnSeal.f; rw [if_pos hb]⟩
  obtain ⟨t, ht, hz⟩ := drawSealed l0 hl0
  have hfin := seal_fin t l1 hl1 hz
  refine Ev.rounds (Ev.congr (fun k => by unfold laws_FnSeal.f; rw [if_neg hb]) (Ev.bind ht (Ev.bind (implSeal_ev t) (Ev.bind (specSeal_ev t) (evIf rfl ?_)))))
  by_cases h8 : t.size > 7996
  · refine evIf ?_ hfin
    unfold sealS; rw [if_pos h8, toList_data]
  · have hsz := sealS_size t (by omega)
    refine evElse ?_ ?_
    · intro e
      have := congrArg List.length e
      rw [toList_data, len_data, hsz] at this
      simp at this
    · obtain ⟨p, hp, p0, p1⟩ := lwAt_ok l1 hw1 hl1 0 ((sealS t).size : Int) (by omega) (by omega)
      obtain ⟨x, hx, x0, x1⟩ := lwAt_ok l1 hw1 hl1 1 255 (by omega) (by omega)
      obtain ⟨j, rfl⟩ : ∃ j : Nat, p = (j : Int) := ⟨p.toNat, by omega⟩
      have hu := implUnseal_ev (sealS t)
      rw [unseal_seal t (by omega)] at hu
      refine evSome hp (evIf ⟨p0, p1⟩ (evSome hx (Ev.bind hu (evIf rfl (Ev.bind (implUnseal_ev (laws_FnSeal.flip (sealS t) (j : Int) x)) (evIf ?_ hfin))))))
      exact unseal_turned t _ (by omega) j (by omega) _ (flip_data _ j x) (turn_ne _ j x x0 x1)

end Go.Proofs.Ytkgjikjnciihmaa.Pure
