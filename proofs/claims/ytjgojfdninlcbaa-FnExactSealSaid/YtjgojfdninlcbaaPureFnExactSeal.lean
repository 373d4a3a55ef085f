/- The plain law of FnExactSeal: what the Lean functions of the printed texts answer. -/
import Derived.Test.YtjgojfdninlcbaaGFnExactSeal
import Derived.Test.YtjgojfdninlcbaaHSem
namespace Go.Proofs.Ytjgojfdninlcbaa.Pure
open Go.RowKit Go.Proofs.Ytjgojfdninlcbaa.PFnExactSeal Go.Proofs.YtjgojfdninlcbaaW.PrintWords Go.Proofs.YtjgojfdninlcbaaW.PrintLast Go.Proofs.YtjgojfdninlcbaaW.PrintMore Go.Proofs.YtjgojfdninlcbaaH
set_option linter.unusedVariables false
set_option linter.unusedSimpArgs false

theorem specCrc_l1 (s : ByteArray) (i : Int) (R : Int) : ∀ (d j : Nat) (r : BitVec 32), j + d = 8 → Ev (fun k => spec_l01Crc.l0 k s ((crcBits d r).toNat : Int) (wrap64 (i + 1))) R → Ev (fun k => spec_l01Crc.l1 k s (r.toNat : Int) i (j : Int)) R
  | 0, j, r, h, H => Ev.step (fun k => by simp only [spec_l01Crc.l1]; rw [if_neg (by omega)]; rfl) H
  | d + 1, j, r, h, H => by
    have hw : wrap64 ((j : Int) + 1) = ((j + 1 : Nat) : Int) := wrap_succ (i := j) (n := 8) (by omega) (by omega)
    refine Ev.step (f := fun k => spec_l01Crc.l1 k s ((crcBit r).toNat : Int) i ((j + 1 : Nat) : Int)) (fun k => ?_) (specCrc_l1 s i R d (j + 1) (crcBit r) (by omega) H)
    simp only [spec_l01Crc.l1]
    rw [if_pos (by omega), hw, half32 r _ _ rfl rfl, polyStep]
    unfold crcBit
    by_cases hb : r &&& 1#32 = 1#32
    · rw [if_pos ((low32 r).2 hb), if_pos hb]
    · rw [if_neg (fun h => hb ((low32 r).1 h)), if_neg hb]
theorem specCrc_l0 (s : ByteArray) (hs : s.size ≤ 140737488355328) : ∀ (d i : Nat) (r : BitVec 32), i + d = s.size → Ev (fun k => spec_l01Crc.l0 k s (r.toNat : Int) (i : Int)) (((~~~ (crcFrom s i d r)).toNat : Nat) : Int)
  | 0, i, r, h => Ev.step (f := fun _ => some (((~~~ r).toNat : Nat) : Int)) (fun k => by
      simp only [spec_l01Crc.l0]; rw [if_neg (by omega), not32, wrap_id (by omega) (by have := (~~~ r).isLt; omega)]) (Ev.now _)
  | d + 1, i, r, h => by
    have hw := wrap_succ (i := i) (n := s.size) (by omega) hs
    have hb := bt_range s (i : Int)
    have ih := specCrc_l0 s hs d (i + 1) (crcByte r (bt s (i : Int))) (by omega)
    refine Ev.step (f := fun k => spec_l01Crc.l1 k s ((r ^^^ BitVec.ofInt 32 (bt s (i : Int))).toNat : Int) (i : Int) ((0 : Nat) : Int)) (fun k => ?_) (specCrc_l1 s i _ 8 0 _ (by omega) (by rw [hw]; exact ih))
    simp only [spec_l01Crc.l0]
    rw [if_pos (by omega), if_pos (by omega), byteStep r _ hb.1 hb.2]
    rfl
theorem specCrc_ev (c : Int) (s : ByteArray) (hs : s.size ≤ 140737488355328) : Ev (fun k => spec_l01Crc.f k c s) (crcS c s) := by
  have h := specCrc_l0 s hs s.size 0 (~~~ (BitVec.ofInt 32 c)) (by omega)
  refine Ev.congr (fun k => ?_) h
  simp only [spec_l01Crc.f]
  rw [mod32, not32]
  rfl

theorem implCrc_l1 (s : ByteArray) (n i : Int) (R : Int) : ∀ (d j : Nat) (r : BitVec 32), j + d = 8 → Ev (fun k => impl_crcMore.l0 k ((crcBits d r).toNat : Int) s n (wrap64 (i + 1))) R → Ev (fun k => impl_crcMore.l1 k (r.toNat : Int) s n i (j : Int)) R
  | 0, j, r, h, H => Ev.step (fun k => by simp only [impl_crcMore.l1]; rw [if_neg (by omega)]; rfl) H
  | d + 1, j, r, h, H => by
    have hw : wrap64 ((j : Int) + 1) = ((j + 1 : Nat) : Int) := wrap_succ (i := j) (n := 8) (by omega) (by omega)
    refine Ev.step (f := fun k => impl_crcMore.l1 k ((crcBit r).toNat : Int) s n i ((j + 1 : Nat) : Int)) (fun k => ?_) (implCrc_l1 s n i R d (j + 1) (crcBit r) (by omega) H)
    simp only [impl_crcMore.l1]
    rw [if_pos (by omega), hw, half32 r _ _ rfl rfl, polyStep]
    unfold crcBit
    by_cases hb : r &&& 1#32 = 1#32
    · rw [if_pos ((low32 r).2 hb), if_pos hb]
    · rw [if_neg (fun h => hb ((low32 r).1 h)), if_neg hb]
theorem implCrc_l0 (s : ByteArray) (hs : s.size ≤ 140737488355328) : ∀ (d i : Nat) (r : BitVec 32), i + d = s.size → Ev (fun k => impl_crcMore.l0 k (r.toNat : Int) s (s.size : Int) (i : Int)) (((crcFrom s i d r).toNat : Nat) : Int)
  | 0, i, r, h => Ev.step (f := fun _ => some ((r.toNat : Nat) : Int)) (fun k => by
      simp only [impl_crcMore.l0]; rw [if_neg (by omega)]) (Ev.now _)
  | d + 1, i, r, h => by
    have hw := wrap_succ (i := i) (n := s.size) (by omega) hs
    have hb := bt_range s (i : Int)
    have ih := implCrc_l0 s hs d (i + 1) (crcByte r (bt s (i : Int))) (by omega)
    refine Ev.step (f := fun k => impl_crcMore.l1 k ((r ^^^ BitVec.ofInt 32 (bt s (i : Int))).toNat : Int) s (s.size : Int) (i : Int) ((0 : Nat) : Int)) (fun k => ?_) (implCrc_l1 s _ i _ 8 0 _ (by omega) (by rw [hw]; exact ih))
    simp only [impl_crcMore.l0]
    rw [if_pos (by omega), if_pos (by omega), if_pos (by omega), byteStep r _ hb.1 hb.2]
    rfl
theorem implCrc_ev (r : BitVec 32) (s : ByteArray) (hs : s.size ≤ 140737488355328) : Ev (fun k => impl_crcMore.f k (r.toNat : Int) s) (((crcFrom s 0 s.size r).toNat : Nat) : Int) :=
  implCrc_l0 s hs s.size 0 r (by omega)

theorem implCrcFn_ev (s : ByteArray) (hs : s.size ≤ 140737488355328) : Ev (fun k => impl_Crc.f k s) (if s.size > 8000 then 0 else crcS 0 s) := by
  by_cases h : s.size > 8000
  · refine Ev.congr (f := fun _ => some 0) (fun k => ?_) (by rw [if_pos h]; exact Ev.now _)
    simp only [impl_Crc.f, impl_longText.f, Option.bind_some]; rw [if_pos (by rw [decide_eq_true_eq]; omega)]
  · rw [if_neg h]
    have := implCrc_ev (~~~ (BitVec.ofInt 32 0)) s hs
    refine Ev.congr (fun k => ?_) (Ev.bind this (f := fun _ t => some (wrap64 (Go.bits .xor .u32 4294967295 t))) ?_)
    · simp only [impl_Crc.f, impl_longText.f, Option.bind_some]; rw [if_neg (by rw [decide_eq_true_eq]; omega)]; rfl
    · rw [not32', wrap_id (by omega) (by have := (~~~ (crcFrom s 0 s.size (~~~ (BitVec.ofInt 32 0)))).isLt; omega)]
      exact Ev.now _

/-- The four bytes of a number. -/
def four (c : Int) : ByteArray := strOfNums [c % 256, c / 256 % 256, c / 65536 % 256, c / 16777216 % 256]
theorem four_size (c : Int) : (four c).size = 4 := by rw [four, strOfNums_size]; rfl
/-- Seal. -/
def sealS (s : ByteArray) : ByteArray := if s.size > 7996 then ⟨#[]⟩ else s ++ four (crcS 0 s)
theorem tail_four (c : Int) : strOfNums (impl_Seal.tail c 4) = four c := by
  have h1 : c / 256 / 256 = c / 65536 := by omega
  have h2 : c / 65536 / 256 = c / 16777216 := by omega
  simp only [impl_Seal.tail, four, h1, h2]
theorem implSeal_ev (s : ByteArray) : Ev (fun k => impl_Seal.f k s) (sealS s) := by
  unfold sealS
  by_cases h : s.size > 7996
  · refine Ev.congr (f := fun _ => some _) (fun k => ?_) (by rw [if_pos h]; exact Ev.now _)
    simp only [impl_Seal.f]; rw [if_pos (by omega)]
  · rw [if_neg h]
    have h1 := implCrcFn_ev s (by omega)
    rw [if_neg (by omega)] at h1
    refine Ev.congr (fun k => by simp only [impl_Seal.f]; rw [if_neg (by omega)]) (Ev.bind h1 ?_)
    rw [tail_four]
    exact Ev.now _

theorem specSeal_ev (s : ByteArray) : Ev (fun k => spec_Seal.f k s) (sealS s) := by
  unfold sealS
  by_cases h : s.size > 7996
  · refine Ev.congr (f := fun _ => some _) (fun k => ?_) (by rw [if_pos h]; exact Ev.now _)
    simp only [spec_Seal.f]; rw [if_pos (by omega)]
  · rw [if_neg h]
    refine Ev.congr (fun k => by simp only [spec_Seal.f]; rw [if_neg (by omega)]) (Ev.bind (specCrc_ev 0 s (by omega)) ?_)
    refine Ev.congr (f := fun _ => some _) (fun k => ?_) (Ev.now _)
    simp only [spec_l01Four.f, Option.bind_some]
    have h4 := four_size (crcS 0 s)
    unfold four at h4 ⊢
    rw [if_pos (by omega)]

theorem FnExactSeal : laws_FnExactSeal.Goal := by
  intro s _
  by_cases hb : (s.size : Int) > 1048576
  · exact ⟨0, by simp only [laws_FnExactSeal.f]; rw [if_pos hb]⟩
  · refine Ev.rounds (Ev.congr (fun k => by simp only [laws_FnExactSeal.f]; rw [if_neg hb]) (Ev.bind (specSeal_ev s) (Ev.bind (implSeal_ev s) ?_)))
    simpa using Ev.now _

end Go.Proofs.Ytjgojfdninlcbaa.Pure
