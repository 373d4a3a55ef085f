/- The plain law of FnExactCrcMore: what the Lean functions of the printed texts answer. -/
import Derived.Test.YtjgojfdninlcbaaGFnExactCrcMore
import Derived.Test.YtjgojfdninlcbaaHSem
namespace Go.Proofs.Ytjgojfdninlcbaa.Pure
open Go.RowKit Go.Proofs.Ytjgojfdninlcbaa.PFnExactCrcMore Go.Proofs.YtjgojfdninlcbaaW.PrintWords Go.Proofs.YtjgojfdninlcbaaW.PrintLast Go.Proofs.YtjgojfdninlcbaaW.PrintMore Go.Proofs.YtjgojfdninlcbaaH
set_option linter.unusedVariables false
set_option linter.unusedSimpArgs false

theorem specCrc_l1 (s : ByteArray) (i : Int) (R : Int) : ∀ (d j : Nat) (r : BitVec 32), j + d = 8 → Ev (fun k => spec_l01Crc.l0 k s ((crcBits d r).toNat : Int) (wrap64 (i + 1))) R → Ev (fun k => spec_l01Crc.l1 k s (r.toNat : Int) i (j : Int)) R
  | 0, j, r, h, H => Ev.step (fun k => by simp only [spec_l01Crc.l1]; rw [if_neg (by omega)]; rfl) H
  | d + 1, j, r, h, H => by
    have hw : wrap64 ((j : Int) + 1) = ((j + 1 : Nat) : Int) := wrap_succ (i := j) (n := 8) (by omega) (by omega)
    refine Ev.step (f := fun k => spec_l01Crc.l1 k s ((crcBit r).toNat : Int) i ((j + 1 : Nat) : Int)) (fun k => ?_) (specCrc_l1 s i R d (j + 1) (crcBit r) (by omega) H)
    simp only [spec_l01Crc.l1]
    rw [if_pos (by omega), hw, half32 r _ _ rfl rfl, polyStep]
    unfold crcBit
    by_cases hb : r &&& 1#32 = 1#32
    · rw [if_pos ((low32 r).2 hb), if_pos hb]
    · rw [if_neg (fun h => hb ((low32 r).1 h)), if_neg hb]
theorem specCrc_l0 (s : ByteArray) (hs : s.size ≤ 140737488355328) : ∀ (d i : Nat) (r : BitVec 32), i + d = s.size → Ev (fun k => spec_l01Crc.l0 k s (r.toNat : Int) (i : Int)) (((~~~ (crcFrom s i d r)).toNat : Nat) : Int)
  | 0, i, r, h => Ev.step (f := fun _ => some (((~~~ r).toNat : Nat) : Int)) (fun k => by
      simp only [spec_l01Crc.l0]; rw [if_neg (by omega), not32, wrap_id (by omega) (by have := (~~~ r).isLt; omega)]) (Ev.now _)
  | d + 1, i, r, h => by
    have hw := wrap_succ (i := i) (n := s.size) (by omega) hs
    have hb := bt_range s (i : Int)
    have ih := specCrc_l0 s hs d (i + 1) (crcByte r (bt s (i : Int))) (by omega)
    refine Ev.step (f := fun k => spec_l01Crc.l1 k s ((r ^^^ BitVec.ofInt 32 (bt s (i : Int))).toNat : Int) (i : Int) ((0 : Nat) : Int)) (fun k => ?_) (specCrc_l1 s i _ 8 0 _ (by omega) (by rw [hw]; exact ih))
    simp only [spec_l01Crc.l0]
    rw [if_pos (by omega), if_pos (by omega), byteStep r _ hb.1 hb.2]
    rfl
theorem specCrc_ev (c : Int) (s : ByteArray) (hs : s.size ≤ 140737488355328) : Ev (fun k => spec_l01Crc.f k c s) (crcS c s) := by
  have h := specCrc_l0 s hs s.size 0 (~~~ (BitVec.ofInt 32 c)) (by omega)
  refine Ev.congr (fun k => ?_) h
  simp only [spec_l01Crc.f]
  rw [mod32, not32]
  rfl

theorem implCrc_l1 (s : ByteArray) (n i : Int) (R : Int) : ∀ (d j : Nat) (r : BitVec 32), j + d = 8 → Ev (fun k => impl_crcMore.l0 k ((crcBits d r).toNat : Int) s n (wrap64 (i + 1))) R → Ev (fun k => impl_crcMore.l1 k (r.toNat : Int) s n i (j : Int)) R
  | 0, j, r, h, H => Ev.step (fun k => by simp only [impl_crcMore.l1]; rw [if_neg (by omega)]; rfl) H
  | d + 1, j, r, h, H => by
    have hw : wrap64 ((j : Int) + 1) = ((j + 1 : Nat) : Int) := wrap_succ (i := j) (n := 8) (by omega) (by omega)
    refine Ev.step (f := fun k => impl_crcMore.l1 k ((crcBit r).toNat : Int) s n i ((j + 1 : Nat) : Int)) (fun k => ?_) (implCrc_l1 s n i R d (j + 1) (crcBit r) (by omega) H)
    simp only [impl_crcMore.l1]
    rw [if_pos (by omega), hw, half32 r _ _ rfl rfl, polyStep]
    unfold crcBit
    by_cases hb : r &&& 1#32 = 1#32
    · rw [if_pos ((low32 r).2 hb), if_pos hb]
    · rw [if_neg (fun h => hb ((low32 r).1 h)), if_neg hb]
theorem implCrc_l0 (s : ByteArray) (hs : s.size ≤ 140737488355328) : ∀ (d i : Nat) (r : BitVec 32), i + d = s.size → Ev (fun k => impl_crcMore.l0 k (r.toNat : Int) s (s.size : Int) (i : Int)) (((crcFrom s i d r).toNat : Nat) : Int)
  | 0, i, r, h => Ev.step (f := fun _ => some ((r.toNat : Nat) : Int)) (fun k => by
      simp only [impl_crcMore.l0]; rw [if_neg (by omega)]) (Ev.now _)
  | d + 1, i, r, h => by
    have hw := wrap_succ (i := i) (n := s.size) (by omega) hs
    have hb := bt_range s (i : Int)
    have ih := implCrc_l0 s hs d (i + 1) (crcByte r (bt s (i : Int))) (by omega)
    refine Ev.step (f := fun k => impl_crcMore.l1 k ((r ^^^ BitVec.ofInt 32 (bt s (i : Int))).toNat : Int) s (s.size : Int) (i : Int) ((0 : Nat) : Int)) (fun k => ?_) (implCrc_l1 s _ i _ 8 0 _ (by omega) (by rw [hw]; exact ih))
    simp only [impl_crcMore.l0]
    rw [if_pos (by omega), if_pos (by omega), if_pos (by omega), byteStep r _ hb.1 hb.2]
    rfl
theorem implCrc_ev (r : BitVec 32) (s : ByteArray) (hs : s.size ≤ 140737488355328) : Ev (fun k => impl_crcMore.f k (r.toNat : Int) s) (((crcFrom s 0 s.size r).toNat : Nat) : Int) :=
  implCrc_l0 s hs s.size 0 r (by omega)

/-- CrcMore. -/
def crcMoreS (c : Int) (s : ByteArray) : Int := if s.size > 8000 ∨ c < 0 ∨ c > 4294967295 then 0 else crcS c s
theorem bitLenAux_le : ∀ f x : Nat, Go.Lib.bitLenAux f x ≤ f
  | 0, x => by simp [Go.Lib.bitLenAux]
  | f + 1, x => by
    have := bitLenAux_le f (x / 2)
    unfold Go.Lib.bitLenAux
    split <;> omega
theorem bitLen_32 (x : Nat) (h : x < 18446744073709551616) : 32 < Go.Lib.bitLen x ↔ 4294967296 ≤ x := by
  constructor
  · intro h1
    rcases Nat.lt_or_ge x 4294967296 with h2 | h2
    · have := Go.Lib.bitLenAux_fuel 32 x (by simpa using h2) 64 (by omega)
      have h3 := bitLenAux_le 32 x
      unfold Go.Lib.bitLen at h1
      omega
    · exact h2
  · intro h1
    have h2 := Go.Lib.bitLen_shift32 x h1 h
    have h3 := Go.Lib.bitLen_half (x / 4294967296) (by omega) (by omega)
    omega
theorem specCrcMore_ev (c : Int) (s : ByteArray) (hs : s.size ≤ 140737488355328) : Ev (fun k => spec_CrcMore.f k c s) (crcMoreS c s) := by
  unfold crcMoreS
  by_cases h1 : (s.size : Int) > 8000
  · rw [if_pos (.inl (by omega))]
    exact Ev.congr (f := fun _ => some 0) (fun k => by simp only [spec_CrcMore.f]; rw [if_pos h1]) (Ev.now _)
  · by_cases h2 : c < 0
    · rw [if_pos (.inr (.inl h2))]
      exact Ev.congr (f := fun _ => some 0) (fun k => by simp only [spec_CrcMore.f]; rw [if_neg h1, if_pos h2]) (Ev.now _)
    · by_cases h3 : c > 4294967295
      · rw [if_pos (.inr (.inr h3))]
        exact Ev.congr (f := fun _ => some 0) (fun k => by simp only [spec_CrcMore.f]; rw [if_neg h1, if_neg h2, if_pos h3]) (Ev.now _)
      · rw [if_neg (by omega)]
        exact Ev.congr (fun k => by simp only [spec_CrcMore.f]; rw [if_neg h1, if_neg h2, if_neg h3]) (Ev.bind (specCrc_ev c s hs) (Ev.now _))
theorem implCrcMore_ev (c : Int) (s : ByteArray) (hc : c ≤ 9223372036854775807) (hs : s.size ≤ 140737488355328) : Ev (fun k => impl_CrcMore.f k c s) (crcMoreS c s) := by
  unfold crcMoreS
  simp only [impl_CrcMore.f, impl_longText.f, Option.bind_some, decide_eq_true_eq]
  by_cases h1 : (s.size : Int) > 8000
  · rw [if_pos (.inl (by omega))]
    simp only [if_pos h1]
    exact Ev.now _
  · simp only [if_neg h1]
    by_cases h2 : c < 0
    · rw [if_pos (.inr (.inl h2))]
      simp only [if_pos h2]
      exact Ev.now _
    · simp only [if_neg h2]
      have e : IntKind.u64.wrap c = c := by rw [u64w]; omega
      have hb := bitLen_32 c.toNat (by omega)
      simp only [bits_Len64.f, e, if_pos (show 0 ≤ c by omega), if_pos (show c ≤ 18446744073709551615 by omega), Option.bind_some]
      by_cases h3 : c > 4294967295
      · rw [if_pos (.inr (.inr h3))]
        simp only [if_pos (show (Go.Lib.bitLen c.toNat : Int) > 32 by have := hb.2 (by omega); omega)]
        exact Ev.now _
      · rw [if_neg (by omega)]
        simp only [if_neg (show ¬ (Go.Lib.bitLen c.toNat : Int) > 32 by intro h; have := hb.1 (by omega); omega)]
        have := implCrc_ev (~~~ (BitVec.ofInt 32 c)) s hs
        refine Ev.congr (fun k => ?_) (Ev.bind this (f := fun _ t => some (wrap64 (Go.bits .xor .u32 4294967295 t))) ?_)
        · rw [mod32, not32']
        · rw [not32', wrap_id (by omega) (by have := (~~~ (crcFrom s 0 s.size (~~~ (BitVec.ofInt 32 c)))).isLt; omega)]
          exact Ev.now _

theorem FnExactCrcMore : laws_FnExactCrcMore.Goal := by
  intro c s hc _
  obtain ⟨_, hc⟩ := i64wf hc
  by_cases hb : (s.size : Int) > 1048576
  · exact ⟨0, by simp only [laws_FnExactCrcMore.f]; rw [if_pos hb]⟩
  · refine Ev.rounds (Ev.congr (fun k => by simp only [laws_FnExactCrcMore.f]; rw [if_neg hb]) (Ev.bind (specCrcMore_ev c s (by omega)) (Ev.bind (implCrcMore_ev c s hc (by omega)) ?_)))
    simpa using Ev.now _

end Go.Proofs.Ytjgojfdninlcbaa.Pure
