/- Plain words on numbers, bytes and lists; no program in sight. -/
import Derived.Test.YtkgjikjnciihmaaWMore
import Derived.Laws.BitsLemmas
namespace Go.Proofs.YtkgjikjnciihmaaH
open Go.RowKit Go.Proofs.YtkgjikjnciihmaaW.PrintWords Go.Proofs.YtkgjikjnciihmaaW.PrintMore
set_option linter.unusedVariables false
set_option linter.unusedSimpArgs false

/-! ### numbers that fit -/
theorem wrap_succ {i n : Nat} (h : i < n) (hn : n ≤ 140737488355328) : wrap64 ((i : Int) + 1) = ((i + 1 : Nat) : Int) := by
  unfold wrap64
  omega
theorem wrap_pred {i n : Nat} (h0 : 0 < i) (h : i < n) (hn : n ≤ 140737488355328) : wrap64 ((i : Int) - 1) = ((i - 1 : Nat) : Int) := by
  unfold wrap64
  omega
theorem wrap_id {x : Int} (h0 : -9223372036854775808 ≤ x) (h1 : x ≤ 9223372036854775807) : wrap64 x = x := by
  unfold wrap64
  omega
theorem u64w (x : Int) : IntKind.u64.wrap x = x % 18446744073709551616 := by simp [IntKind.wrap, IntKind.bits, IntKind.signed]
theorem u32w (x : Int) : IntKind.u32.wrap x = x % 4294967296 := by simp [IntKind.wrap, IntKind.bits, IntKind.signed]
theorem u8w (x : Int) : IntKind.u8.wrap x = x % 256 := by simp [IntKind.wrap, IntKind.bits, IntKind.signed]
theorem i64wf {x : Int} (h : (Lit.int .i64 x).wf = true) : -9223372036854775808 ≤ x ∧ x ≤ 9223372036854775807 := by
  simpa [Lit.wf, IntKind.min, IntKind.max, IntKind.signed, IntKind.bits] using h
theorem rd_nat (l : List Int) (i : Nat) : rd l (i : Int) = l.getD i 0 := by simp [rd]
theorem drop_at {α : Type} (l : List α) (z : α) {i : Nat} (h : i < l.length) : l.drop i = l.getD i z :: l.drop (i + 1) := by
  rw [List.drop_eq_getElem_cons h]
  simp [List.getD, h]

/-! ### a number's bytes -/
/-- A number as one without a sign. -/
def zig (n : Int) : Nat := if n < 0 then (-2 * n - 1).toNat else (2 * n).toNat
def unzig (u : Nat) : Int := if u % 2 = 1 then -((u / 2 : Nat) : Int) - 1 else ((u / 2 : Nat) : Int)
theorem unzig_zig (n : Int) : unzig (zig n) = n := by
  unfold unzig zig
  split <;> split <;> omega
theorem zig_lt {n : Int} (h0 : -9223372036854775808 ≤ n) (h1 : n ≤ 9223372036854775807) : zig n < 18446744073709551616 := by
  unfold zig
  split <;> omega
/-- Seven bits a byte, the lowest first. -/
def enc7 (u : Nat) : List Int := if u < 128 then [(u : Int)] else ((u % 128 + 128 : Nat) : Int) :: enc7 (u / 128)
termination_by u
decreasing_by omega
theorem enc7_small {u : Nat} (h : u < 128) : enc7 u = [(u : Int)] := by rw [enc7]; simp [h]
theorem enc7_big {u : Nat} (h : ¬ u < 128) : enc7 u = ((u % 128 + 128 : Nat) : Int) :: enc7 (u / 128) := by rw [enc7]; simp [h]
/-- PutNum's bytes. -/
def numS (n : Int) : ByteArray := strOfNums (enc7 (zig n))
theorem numS_size (n : Int) (h0 : -9223372036854775808 ≤ n) (h1 : n ≤ 9223372036854775807) : (numS n).size ≤ 10 := by
  have key : ∀ (j u : Nat), u < 128 ^ (j + 1) → (enc7 u).length ≤ j + 1 := by
    intro j
    induction j with
    | zero => intro u h; rw [enc7_small (by omega)]; simp
    | succ j ih =>
      intro u h
      by_cases hs : u < 128
      · rw [enc7_small hs]; simp
      · rw [enc7_big hs]
        have := ih (u / 128) (by rw [Nat.pow_succ] at h; omega)
        simp; omega
  unfold numS
  rw [strOfNums_size]
  exact key 9 _ (by have := zig_lt h0 h1; omega)
/-- Numbers' bytes, one behind another. -/
def catN (s : ByteArray) (l : List Int) : ByteArray := l.foldl (fun s n => s ++ numS n) s
theorem catN_size (l : List Int) : ∀ s : ByteArray, (∀ n ∈ l, -9223372036854775808 ≤ n ∧ n ≤ 9223372036854775807) → (catN s l).size ≤ s.size + 10 * l.length := by
  induction l with
  | nil => intro s _; simp [catN]
  | cons n l ih =>
    intro s h
    have h1 := numS_size n (h n (by simp)).1 (h n (by simp)).2
    have h2 := ih (s ++ numS n) (fun m hm => h m (by simp [hm]))
    rw [ByteArray.size_append] at h2
    show (catN (s ++ numS n) l).size ≤ _
    simp only [List.length_cons]
    omega
theorem catN_append (l : List Int) : ∀ s t : ByteArray, catN (s ++ t) l = s ++ catN t l := by
  induction l with
  | nil => intro s t; rfl
  | cons n l ih =>
    intro s t
    show catN (s ++ t ++ numS n) l = s ++ catN (t ++ numS n) l
    rw [ByteArray.append_assoc, ih]
theorem or128 (x : Int) (h0 : 0 ≤ x) (h1 : x < 256) : Go.bits .or .u8 x 128 = x % 128 + 128 := by
  have h : ∀ y : Fin 256, Go.bits .or .u8 ((y.val : Nat) : Int) 128 = ((y.val : Nat) : Int) % 128 + 128 := by decide +kernel
  have := h ⟨x.toNat, by omega⟩
  simpa [Int.toNat_of_nonneg h0] using this
theorem not64 (x : Nat) (h : x < 18446744073709551616) : Go.bits .xor .u64 18446744073709551615 (x : Int) = ((18446744073709551615 - x : Nat) : Int) := by
  have e : (18446744073709551615 : Int) = ((BitVec.allOnes 64).toNat : Int) := by decide +kernel
  have e2 : BitVec.ofInt 64 18446744073709551615 = BitVec.allOnes 64 := by decide +kernel
  have e3 : BitVec.ofInt 64 (x : Int) = BitVec.ofNat 64 x := by simp
  have h1 : (BitVec.allOnes 64 ^^^ BitVec.ofNat 64 x).toNat = 18446744073709551615 - x := by
    rw [BitVec.allOnes_xor, BitVec.toNat_not, BitVec.toNat_ofNat, Nat.mod_eq_of_lt (by omega)]
  have : Go.bits .xor .u64 18446744073709551615 (x : Int) = IntKind.u64.wrap ((BitVec.ofInt 64 18446744073709551615 ^^^ BitVec.ofInt 64 (x : Int)).toNat : Int) := rfl
  rw [this, e2, e3, h1, u64w]
  omega

/-- What stands as a number at a place: the number, the place behind it, the code. -/
def getFrom (s : ByteArray) (a : Nat) : Nat → Nat → Nat → Int × Int × Int
  | 0, _, _ => (0, 0, 3)
  | d + 1, i, u =>
    if s.size ≤ a + i then (0, 0, 4)
    else if (i = 9 ∧ 1 < (bt s ((a + i : Nat) : Int)).toNat) ∨ (0 < i ∧ (bt s ((a + i : Nat) : Int)).toNat = 0) then (0, 0, 3)
    else if (bt s ((a + i : Nat) : Int)).toNat < 128 then (unzig (u + (bt s ((a + i : Nat) : Int)).toNat * 2 ^ (7 * i)), ((a + i + 1 : Nat) : Int), 0)
    else getFrom s a d (i + 1) (u + ((bt s ((a + i : Nat) : Int)).toNat % 128) * 2 ^ (7 * i))
/-- GetNum. -/
def getS (s : ByteArray) (a : Int) : Int × Int × Int := if s.size > 8000 then (0, 0, 2) else if a < 0 then (0, 0, 1) else getFrom s a.toNat 10 0 0
theorem shl64 (x n p : Nat) (hp : p = 2 ^ n) (hn : n ≤ 64) (hx : x * p < 18446744073709551616) : shl .u64 (x : Int) (n : Int) = ((x * p : Nat) : Int) := by
  unfold shl
  rw [u64w, Int.toNat_natCast, show min n IntKind.u64.bits = n from Nat.min_eq_left hn]
  have : ((x : Int) * 2 ^ n) = ((x * p : Nat) : Int) := by rw [hp]; simp
  rw [this]
  omega
theorem or64 (u c n p : Nat) (hp : p = 2 ^ n) (hu : u < p) (h : u + c * p < 18446744073709551616) : Go.bits .or .u64 (u : Int) ((c * p : Nat) : Int) = ((u + c * p : Nat) : Int) := by
  have e : Go.bits .or .u64 (u : Int) ((c * p : Nat) : Int) = IntKind.u64.wrap ((BitVec.ofInt 64 (u : Int) ||| BitVec.ofInt 64 ((c * p : Nat) : Int)).toNat : Int) := rfl
  rw [e, u64w, BitVec.toNat_or]
  simp only [BitVec.ofInt_natCast, BitVec.toNat_ofNat]
  rw [Nat.mod_eq_of_lt (by omega), Nat.mod_eq_of_lt (by omega)]
  have h2 : p * c + u = p * c ||| u := by
    subst hp
    exact Nat.two_pow_add_eq_or_of_lt hu c
  rw [Nat.mul_comm c p] at h ⊢
  rw [Nat.or_comm, ← h2]
  omega
theorem and1 (u : Nat) (h : u < 18446744073709551616) : Go.bits .and .u64 (u : Int) 1 = ((u % 2 : Nat) : Int) := by
  have e : Go.bits .and .u64 (u : Int) 1 = IntKind.u64.wrap ((BitVec.ofInt 64 (u : Int) &&& BitVec.ofInt 64 1).toNat : Int) := rfl
  rw [e, u64w, BitVec.toNat_and]
  have e1 : (BitVec.ofInt 64 1).toNat = 1 := by decide +kernel
  rw [e1, BitVec.ofInt_natCast, BitVec.toNat_ofNat, Nat.mod_eq_of_lt (by omega), Nat.and_one_is_mod]
  omega
theorem and127 (x : Int) (h0 : 0 ≤ x) (h1 : x < 256) : Go.bits .and .u8 x 127 = x % 128 := by
  have h : ∀ y : Fin 256, Go.bits .and .u8 ((y.val : Nat) : Int) 127 = ((y.val : Nat) : Int) % 128 := by decide +kernel
  have := h ⟨x.toNat, by omega⟩
  simpa [Int.toNat_of_nonneg h0] using this
theorem notI (x : Nat) (h : x < 9223372036854775808) : Go.bits .xor .i64 (-1) (x : Int) = -(x : Int) - 1 := by
  have e : Go.bits .xor .i64 (-1) (x : Int) = IntKind.i64.wrap ((BitVec.ofInt 64 (-1) ^^^ BitVec.ofInt 64 (x : Int)).toNat : Int) := rfl
  have e2 : BitVec.ofInt 64 (-1) = BitVec.allOnes 64 := by decide +kernel
  rw [e, e2, BitVec.allOnes_xor, BitVec.toNat_not, BitVec.ofInt_natCast, BitVec.toNat_ofNat, Nat.mod_eq_of_lt (by omega)]
  simp only [IntKind.wrap, IntKind.bits, IntKind.signed]
  have e3 : ((2 ^ 64 - 1 - x : Nat) : Int) = 18446744073709551615 - (x : Int) := by omega
  rw [e3]
  simp
  omega
theorem pow7 (i : Nat) : (2 : Nat) ^ (7 * (i + 1)) = 2 ^ (7 * i) * 128 := by
  rw [show 7 * (i + 1) = 7 * i + 7 from rfl, Nat.pow_add]
theorem pow63 {i p : Nat} (hp : p = 2 ^ (7 * i)) (h : i ≤ 9) : p ≤ 9223372036854775808 := by
  subst hp
  have h1 : 7 * i ≤ 63 := by omega
  have := Nat.pow_le_pow_right (n := 2) (by decide) h1
  simpa using this
theorem pow56 {i p : Nat} (hp : p = 2 ^ (7 * i)) (h : i ≤ 8) : p ≤ 72057594037927936 := by
  subst hp
  have h1 : 7 * i ≤ 56 := by omega
  have := Nat.pow_le_pow_right (n := 2) (by decide) h1
  simpa using this
/-- Seven bits more, put to what is told already, still fit. -/
theorem fits7 {u b i p : Nat} (hp : p = 2 ^ (7 * i)) (hu : u < p) (hi : i ≤ 9) (hb : i = 9 → b ≤ 1) : u + (b % 128) * p < 18446744073709551616 := by
  have h9 := pow63 hp hi
  rcases Nat.lt_or_ge i 9 with h | h
  · have h8 := pow56 hp (by omega)
    have h1 : b % 128 ≤ 127 := by omega
    have h2 := Nat.mul_le_mul_right p h1
    clear hp
    omega
  · have h1 : b % 128 ≤ 1 := by have := hb (by omega); omega
    have h2 := Nat.mul_le_mul_right p h1
    clear hp
    omega
theorem next7 {u b i p : Nat} (hp : p = 2 ^ (7 * i)) (hu : u < p) : u + (b % 128) * p < 2 ^ (7 * (i + 1)) := by
  rw [pow7, ← hp]
  have h1 : b % 128 ≤ 127 := by omega
  have h2 := Nat.mul_le_mul_right p h1
  clear hp
  omega

/-! ### small tests -/
def inR (x lo hi : Int) : Bool := decide (lo ≤ x) && decide (x ≤ hi)
theorem inR_iff {x lo hi : Int} : inR x lo hi = true ↔ lo ≤ x ∧ x ≤ hi := by simp [inR]
/-- Is a fact right? -/
def factR (n i s : Int) : Bool := inR n 1 6 && (inR i 0 1000000 && inR s 1 3)
/-- Is a fact less (life, then status)? -/
def lessF (i s i' s' : Int) : Bool := decide (i < i') || (decide (i = i') && decide (s < s'))
theorem ite_some {c : Bool} {α : Type} (x y : α) : (if c = true then some x else some y) = some (if c = true then x else y) := by cases c <;> rfl

/-! ### lists of numbers -/
/-- Do the numbers from place i on (d of them) each stand above the one ahead? -/
def rises (l : List Int) : Nat → Nat → Bool
  | _, 0 => true
  | i, d + 1 => decide (l.getD (i - 1) 0 < l.getD i 0) && rises l (i + 1) d


/-! ### loops that are alike -/
/-- Does t hold of the d places from i on? -/
def allB (t : Nat → Bool) : Nat → Nat → Bool
  | _, 0 => true
  | i, d + 1 => t i && allB t (i + 1) d
theorem allB_iff (t : Nat → Bool) : ∀ d i : Nat, allB t i d = true ↔ ∀ j, i ≤ j → j < i + d → t j = true
  | 0, i => by simp [allB]; intro j h1 h2; omega
  | d + 1, i => by
    rw [allB, Bool.and_eq_true, allB_iff t d (i + 1)]
    constructor
    · rintro ⟨h1, h2⟩ j hj hk
      rcases Nat.lt_or_ge i j with h | h
      · exact h2 j h (by omega)
      · have : j = i := by omega
        rw [this]; exact h1
    · intro h
      exact ⟨h i (by omega) (by omega), fun j h1 h2 => h j (by omega) (by omega)⟩
theorem allB_congr {t t' : Nat → Bool} : ∀ d i : Nat, (∀ j, i ≤ j → j < i + d → t j = t' j) → allB t i d = allB t' i d
  | 0, _, _ => rfl
  | d + 1, i, h => by rw [allB, allB, h i (by omega) (by omega), allB_congr d (i + 1) (fun j h1 h2 => h j (by omega) (by omega))]
/-- A loop that asks each place. -/
theorem allLoop (n : Nat) (t : Nat → Bool) (b : Bool) (g : Nat → Int → Option Bool) (step : ∀ k i : Nat, i < n → g (k + 1) (i : Int) = if t i = true then g k ((i + 1 : Nat) : Int) else some false)
    (stop : ∀ k : Nat, g (k + 1) (n : Int) = some b) : ∀ d i : Nat, i + d = n → Ev (fun k => g k (i : Int)) (allB t i d && b)
  | 0, i, h => by
    obtain rfl : i = n := by omega
    exact Ev.step (f := fun _ => some b) (fun k => stop k) (by simpa [allB] using Ev.now b)
  | d + 1, i, h => by
    cases ht : t i with
    | true => exact Ev.step (fun k => by rw [step k i (by omega), if_pos ht]) (by rw [allB, ht, Bool.true_and]; exact allLoop n t b g step stop d (i + 1) (by omega))
    | false => exact Ev.step (f := fun _ => some false) (fun k => by rw [step k i (by omega), if_neg (by rw [ht]; simp)]) (by rw [allB, ht, Bool.false_and, Bool.false_and]; exact Ev.now _)
/-- A loop that asks each place by a call. -/
theorem allLoopE (n : Nat) (t : Nat → Bool) (b : Bool) (g : Nat → Int → Option Bool) (step : ∀ i : Nat, i < n → ∀ R : Bool, Ev (fun k => g k ((i + 1 : Nat) : Int)) R → Ev (fun k => g k (i : Int)) (t i && R))
    (stop : Ev (fun k => g k (n : Int)) b) : ∀ d i : Nat, i + d = n → Ev (fun k => g k (i : Int)) (allB t i d && b)
  | 0, i, h => by
    obtain rfl : i = n := by omega
    simpa [allB] using stop
  | d + 1, i, h => by
    have := step i (by omega) _ (allLoopE n t b g step stop d (i + 1) (by omega))
    rw [allB, Bool.and_assoc]
    exact this
theorem Ev.ofBool {g : Nat → Option Bool} {a b : Bool} (h : Ev g a) (e : a = b) : Ev g b := e ▸ h
theorem evIf {α : Type} {c : Prop} [Decidable c] {f g : Nat → Option α} {r : α} (h : c) (hf : Ev f r) : Ev (fun n => if c then f n else g n) r := Ev.congr (fun _ => if_pos h) hf
theorem evElse {α : Type} {c : Prop} [Decidable c] {f g : Nat → Option α} {r : α} (h : ¬ c) (hg : Ev g r) : Ev (fun n => if c then f n else g n) r := Ev.congr (fun _ => if_neg h) hg
/-- Places no two alike. -/
theorem nodup_of_all (l : List Int) (h : ∀ j, j < l.length → (l.take j).contains (l.getD j 0) = false) : l.Nodup := by
  have key : ∀ j, j ≤ l.length → (l.take j).Nodup := by
    intro j
    induction j with
    | zero => intro _; simp
    | succ j ih =>
      intro hj
      have hc := h j (by omega)
      have e : l.take (j + 1) = l.take j ++ [l.getD j 0] := by
        rw [List.take_add_one]
        simp [List.getD, show j < l.length by omega]
      rw [e, List.nodup_append]
      refine ⟨ih (by omega), by simp, fun a ha b hb => ?_⟩
      rw [List.mem_singleton.1 hb]
      rintro rfl
      rw [List.contains_eq_mem] at hc
      simp only [decide_eq_false_iff_not] at hc
      exact hc ha
  have := key l.length (Nat.le_refl _)
  rwa [List.take_length] at this
/-- A loop that fills a row, place by place. -/
theorem fillLoop {β : Type} (n : Nat) (F : Nat → β) (g : Nat → List β → Int → Option (List β)) (step : ∀ (k i : Nat) (ys : List β), i < n → ys.length = n → g (k + 1) ys (i : Int) = g k (ys.set i (F i)) ((i + 1 : Nat) : Int))
    (stop : ∀ (k : Nat) (ys : List β), ys.length = n → g (k + 1) ys (n : Int) = some ys) : ∀ (d i : Nat) (ys : List β), i + d = n → ys.length = n → Ev (fun k => g k ys (i : Int)) (ys.take i ++ (List.range' i d).map F)
  | 0, i, ys, h, hy => by
    obtain rfl : i = n := by omega
    refine Ev.step (f := fun _ => some ys) (fun k => stop k ys hy) ?_
    rw [List.take_of_length_le (by omega)]
    simpa using Ev.now ys
  | d + 1, i, ys, h, hy => by
    refine Ev.step (fun k => step k i ys (by omega) hy) ?_
    have := fillLoop n F g step stop d (i + 1) (ys.set i (F i)) (by omega) (by simpa using hy)
    have e : (ys.set i (F i)).take (i + 1) = ys.take i ++ [F i] := by
      rw [List.take_add_one, List.take_set, List.set_eq_of_length_le (by simp; omega), List.getElem?_set_self (by omega)]
      rfl
    rw [e] at this
    rw [List.range'_succ, List.map_cons]
    simpa using this
theorem map_range {α β : Type} (l : List α) (z : α) (F : α → β) : (List.range' 0 l.length).map (fun i => F (l.getD i z)) = l.map F := by
  apply List.ext_getElem?
  intro i
  by_cases hi : i < l.length
  · simp [List.getElem?_map, hi, List.getD]
  · simp [List.getElem?_map, hi, List.getElem?_eq_none (show l.length ≤ i by omega), List.getElem?_eq_none (show (List.range' 0 l.length).length ≤ i by simp; omega)]
theorem list_eq_iff {α : Type} [DecidableEq α] (l m : List α) (z : α) (h : m.length = l.length) : allB (fun i => decide (l.getD i z = m.getD i z)) 0 l.length = decide (l = m) := by
  rw [Bool.eq_iff_iff, allB_iff, decide_eq_true_iff]
  constructor
  · intro hj
    apply List.ext_getElem h.symm
    intro i h1 h2
    have := hj i (by omega) (by omega)
    simpa [List.getD, h1, h2] using this
  · rintro rfl j _ _
    simp
/-- The marks of a row: each element's, w numbers an element. -/
def marks {β : Type} (M : Int → β) (w : Int) : Int → Nat → List β
  | _, 0 => []
  | a, d + 1 => M a :: marks M w (a + w) d
theorem marks_length {β : Type} (M : Int → β) (w : Int) : ∀ (d : Nat) (a : Int), (marks M w a d).length = d
  | 0, _ => rfl
  | d + 1, a => by rw [marks, List.length_cons, marks_length M w d]
theorem marks_at {β : Type} (M : Int → β) (w : Int) (z : β) : ∀ (d j : Nat) (a : Int), j < d → (marks M w a d).getD j z = M (a + w * j)
  | 0, j, a, h => by omega
  | d + 1, 0, a, h => by simp [marks]
  | d + 1, j + 1, a, h => by
    rw [marks, List.getD_cons_succ, marks_at M w z d j (a + w) (by omega)]
    congr 1
    rw [Int.natCast_add, Int.mul_add]
    omega
/-- A loop that marks a row. -/
theorem markLoop {β : Type} (n : Nat) (M : Int → β) (w : Int) (hw : 0 ≤ w) (g : Nat → List β → Int → Int → Option (Int × List β))
    (step : ∀ (k i : Nat) (a : Int) (ys : List β), i < n → ys.length = n → 0 ≤ a → a + w ≤ 4611686018427387904 → g (k + 1) ys a (i : Int) = g k (ys.set i (M a)) (a + w) ((i + 1 : Nat) : Int))
    (stop : ∀ (k : Nat) (a : Int) (ys : List β), ys.length = n → g (k + 1) ys a (n : Int) = some (a, ys)) :
    ∀ (d i : Nat) (a : Int) (ys : List β), i + d = n → ys.length = n → 0 ≤ a → a + w * d ≤ 4611686018427387904 → Ev (fun k => g k ys a (i : Int)) (a + w * d, ys.take i ++ marks M w a d)
  | 0, i, a, ys, h, hy, ha, hb => by
    obtain rfl : i = n := by omega
    refine Ev.step (f := fun _ => some (a, ys)) (fun k => stop k a ys hy) ?_
    rw [List.take_of_length_le (by omega)]
    simpa [marks] using Ev.now (a, ys)
  | d + 1, i, a, ys, h, hy, ha, hb => by
    have e1 : w * ((d + 1 : Nat) : Int) = w + w * (d : Int) := by rw [Int.natCast_add, Int.mul_add]; omega
    have h0 : 0 ≤ w * (d : Int) := Int.mul_nonneg hw (by omega)
    refine Ev.step (fun k => step k i a ys (by omega) hy ha (by omega)) ?_
    have := markLoop n M w hw g step stop d (i + 1) (a + w) (ys.set i (M a)) (by omega) (by simpa using hy) (by omega) (by omega)
    have e : (ys.set i (M a)).take (i + 1) = ys.take i ++ [M a] := by
      rw [List.take_add_one, List.take_set, List.set_eq_of_length_le (by simp; omega), List.getElem?_set_self (by omega)]
      rfl
    rw [e] at this
    rw [e1, marks, show a + (w + w * (d : Int)) = a + w + w * (d : Int) by omega]
    simpa using this
/-- A loop that finds the marks again. -/
theorem heldLoop (n : Nat) (w : Int) (hw : 0 ≤ w) (a0 : Int) (h0 : 0 ≤ a0) (hb : a0 + w * n ≤ 4611686018427387904) (g : Nat → Int → Int → Option Int)
    (step : ∀ (k i : Nat), i < n → a0 + w * i + w ≤ 4611686018427387904 → 0 ≤ a0 + w * i → g (k + 1) (a0 + w * i) (i : Int) = g k (a0 + w * i + w) ((i + 1 : Nat) : Int))
    (stop : ∀ (k : Nat) (a : Int), g (k + 1) a (n : Int) = some a) :
    ∀ (d i : Nat), i + d = n → Ev (fun k => g k (a0 + w * i) (i : Int)) (a0 + w * n)
  | 0, i, h => by
    obtain rfl : i = n := by omega
    exact Ev.step (f := fun _ => some _) (fun k => stop k _) (Ev.now _)
  | d + 1, i, h => by
    have e1 : w * ((i + 1 : Nat) : Int) = w * (i : Int) + w := by rw [Int.natCast_add, Int.mul_add]; omega
    have h2 : w * ((i + 1 : Nat) : Int) ≤ w * (n : Int) := Int.mul_le_mul_of_nonneg_left (by omega) hw
    have h3 : 0 ≤ w * (i : Int) := Int.mul_nonneg hw (by omega)
    refine Ev.step (fun k => step k i (by omega) (by omega) (by omega)) ?_
    have := heldLoop n w hw a0 h0 hb g step stop d (i + 1) (by omega)
    rw [e1, ← Int.add_assoc] at this
    exact this
/-- A loop that marks a row, with calls on its way. -/
theorem markLoopE {β : Type} (n : Nat) (M : Int → β) (w : Int) (hw : 0 ≤ w) (g : Nat → List β → Int → Int → Option (Int × List β))
    (step : ∀ (i : Nat) (a : Int) (ys : List β), i < n → ys.length = n → 0 ≤ a → a + w ≤ 4611686018427387904 → ∀ R, Ev (fun k => g k (ys.set i (M a)) (a + w) ((i + 1 : Nat) : Int)) R → Ev (fun k => g k ys a (i : Int)) R)
    (stop : ∀ (k : Nat) (a : Int) (ys : List β), ys.length = n → g (k + 1) ys a (n : Int) = some (a, ys)) :
    ∀ (d i : Nat) (a : Int) (ys : List β), i + d = n → ys.length = n → 0 ≤ a → a + w * d ≤ 4611686018427387904 → Ev (fun k => g k ys a (i : Int)) (a + w * d, ys.take i ++ marks M w a d)
  | 0, i, a, ys, h, hy, ha, hb => by
    obtain rfl : i = n := by omega
    refine Ev.step (f := fun _ => some (a, ys)) (fun k => stop k a ys hy) ?_
    rw [List.take_of_length_le (by omega)]
    simpa [marks] using Ev.now (a, ys)
  | d + 1, i, a, ys, h, hy, ha, hb => by
    have e1 : w * ((d + 1 : Nat) : Int) = w + w * (d : Int) := by rw [Int.natCast_add, Int.mul_add]; omega
    have h0 : 0 ≤ w * (d : Int) := Int.mul_nonneg hw (by omega)
    refine step i a ys (by omega) hy ha (by omega) _ ?_
    have := markLoopE n M w hw g step stop d (i + 1) (a + w) (ys.set i (M a)) (by omega) (by simpa using hy) (by omega) (by omega)
    have e : (ys.set i (M a)).take (i + 1) = ys.take i ++ [M a] := by
      rw [List.take_add_one, List.take_set, List.set_eq_of_length_le (by simp; omega), List.getElem?_set_self (by omega)]
      rfl
    rw [e] at this
    rw [e1, marks, show a + (w + w * (d : Int)) = a + w + w * (d : Int) by omega]
    simpa using this
/-- A loop that finds the marks again, with calls on its way. -/
theorem heldLoopE (n : Nat) (w : Int) (hw : 0 ≤ w) (a0 : Int) (h0 : 0 ≤ a0) (hb : a0 + w * n ≤ 4611686018427387904) (g : Nat → Int → Int → Option Int)
    (step : ∀ (i : Nat), i < n → a0 + w * i + w ≤ 4611686018427387904 → 0 ≤ a0 + w * i → ∀ R, Ev (fun k => g k (a0 + w * i + w) ((i + 1 : Nat) : Int)) R → Ev (fun k => g k (a0 + w * i) (i : Int)) R)
    (stop : ∀ (k : Nat) (a : Int), g (k + 1) a (n : Int) = some a) :
    ∀ (d i : Nat), i + d = n → Ev (fun k => g k (a0 + w * i) (i : Int)) (a0 + w * n)
  | 0, i, h => by
    obtain rfl : i = n := by omega
    exact Ev.step (f := fun _ => some _) (fun k => stop k _) (Ev.now _)
  | d + 1, i, h => by
    have e1 : w * ((i + 1 : Nat) : Int) = w * (i : Int) + w := by rw [Int.natCast_add, Int.mul_add]; omega
    have h2 : w * ((i + 1 : Nat) : Int) ≤ w * (n : Int) := Int.mul_le_mul_of_nonneg_left (by omega) hw
    have h3 : 0 ≤ w * (i : Int) := Int.mul_nonneg hw (by omega)
    refine step i (by omega) (by omega) (by omega) _ ?_
    have := heldLoopE n w hw a0 h0 hb g step stop d (i + 1) (by omega)
    rw [e1, ← Int.add_assoc] at this
    exact this
theorem getD_set_self {β : Type} (ys : List β) (z x : β) (i : Nat) (h : i < ys.length) : (ys.set i x).getD i z = x := by simp [List.getD, h]
/-- Strictly rising nodes are at most six. -/
theorem rising_six (n : Nat → Int) (len : Nat) (h : ∀ j, j < len → 1 ≤ n j ∧ n j ≤ 6 ∧ (0 < j → n (j - 1) < n j)) : len ≤ 6 := by
  have key : ∀ j, j < len → (j : Int) + 1 ≤ n j := by
    intro j
    induction j with
    | zero => intro hj; have := (h 0 hj).1; omega
    | succ j ih =>
      intro hj
      have h1 := ih (by omega)
      have h2 := (h (j + 1) hj).2.2 (by omega)
      simp only [Nat.add_sub_cancel] at h2
      omega
  rcases Nat.lt_or_ge 6 len with h6 | h6
  · have h1 := key 6 h6
    have h2 := (h 6 h6).2.1
    omega
  · exact h6
/-- Nodes, no two alike, are at most six. -/
theorem apart_six (l : List Int) (h : ∀ x ∈ l, 1 ≤ x ∧ x ≤ 6) (hn : l.Nodup) : l.length ≤ 6 := by
  have key : ∀ m : List Int, (∀ x ∈ m, 1 ≤ x ∧ x ≤ 6) → m.length = m.count 1 + m.count 2 + m.count 3 + m.count 4 + m.count 5 + m.count 6 := by
    intro m
    induction m with
    | nil => intro _; rfl
    | cons x m ih =>
      intro hm
      have hx := hm x (by simp)
      have := ih (fun y hy => hm y (by simp [hy]))
      have : x = 1 ∨ x = 2 ∨ x = 3 ∨ x = 4 ∨ x = 5 ∨ x = 6 := by omega
      rcases this with rfl | rfl | rfl | rfl | rfl | rfl <;> simp [List.count_cons] <;> omega
  have h1 := key l h
  have c := fun a : Int => List.nodup_iff_count.1 hn a
  have := c 1; have := c 2; have := c 3; have := c 4; have := c 5; have := c 6
  omega

/-! ### texts -/
theorem toList_data (s : ByteArray) : s.toList = s.data.toList := by
  have key : ∀ (d i : Nat) (r : List UInt8), i + d = s.size → ByteArray.toList.loop s i r = r.reverse ++ s.data.toList.drop i := by
    intro d
    induction d with
    | zero =>
      intro i r h
      rw [ByteArray.toList.loop]
      rw [if_neg (by omega), List.drop_of_length_le (by have : s.data.toList.length = s.size := by simp
                                                        omega)]
      simp
    | succ d ih =>
      intro i r h
      rw [ByteArray.toList.loop, if_pos (by omega), ih (i + 1) _ (by omega)]
      have hl : i < s.data.toList.length := by
        have : s.data.toList.length = s.size := by simp
        omega
      rw [List.drop_eq_getElem_cons hl]
      have hi : i < s.data.size := by
        have : s.data.size = s.size := by simp
        omega
      simp [ByteArray.get!, Array.getElem!_eq_getD, Array.getElem?_eq_getElem hi]
  have := key s.size 0 [] (by omega)
  simpa [ByteArray.toList] using this
theorem toList_append (a b : ByteArray) : (a ++ b).toList = a.toList ++ b.toList := by simp [toList_data, ByteArray.data_append]
theorem cut_join (s : ByteArray) (m : Nat) : s.extract 0 m ++ s.extract m s.size = s := by
  apply ByteArray.ext
  apply Array.ext'
  simp

/-! ### the register -/
def poly : BitVec 32 := 3988292384#32
/-- One bit. -/
def crcBit (r : BitVec 32) : BitVec 32 := if r &&& 1#32 = 1#32 then (r >>> 1) ^^^ poly else r >>> 1
def crcBits : Nat → BitVec 32 → BitVec 32
  | 0, r => r
  | d + 1, r => crcBits d (crcBit r)
def crcByte (r : BitVec 32) (b : Int) : BitVec 32 := crcBits 8 (r ^^^ BitVec.ofInt 32 b)
/-- The register behind the d bytes from place i on. -/
def crcFrom (s : ByteArray) : Nat → Nat → BitVec 32 → BitVec 32
  | _, 0, r => r
  | i, d + 1, r => crcFrom s (i + 1) d (crcByte r (bt s (i : Int)))
theorem xor32 (x y : Int) : Go.bits .xor .u32 x y = ((BitVec.ofInt 32 x ^^^ BitVec.ofInt 32 y).toNat : Int) := by
  show IntKind.u32.wrap ((BitVec.ofInt 32 x ^^^ BitVec.ofInt 32 y).toNat : Int) = _
  rw [u32w]
  have := (BitVec.ofInt 32 x ^^^ BitVec.ofInt 32 y).isLt
  omega
theorem and32 (x y : Int) : Go.bits .and .u32 x y = ((BitVec.ofInt 32 x &&& BitVec.ofInt 32 y).toNat : Int) := by
  show IntKind.u32.wrap ((BitVec.ofInt 32 x &&& BitVec.ofInt 32 y).toNat : Int) = _
  rw [u32w]
  have := (BitVec.ofInt 32 x &&& BitVec.ofInt 32 y).isLt
  omega
theorem of32 (r : BitVec 32) : BitVec.ofInt 32 (r.toNat : Int) = r := by simp
theorem half32 (r : BitVec 32) (x y : Int) (hx : x = (r.toNat : Int)) (hy : y = ((r >>> 1).toNat : Int)) : x / 2 = y := by
  subst hx
  subst hy
  rw [BitVec.toNat_ushiftRight, Nat.shiftRight_eq_div_pow]
  omega
theorem low32 (r : BitVec 32) : Go.bits .and .u32 (r.toNat : Int) 1 = 1 ↔ r &&& 1#32 = 1#32 := by
  rw [and32, of32]
  have e : BitVec.ofInt 32 1 = 1#32 := by decide +kernel
  rw [e]
  constructor
  · intro h
    apply BitVec.eq_of_toNat_eq
    have : (r &&& 1#32).toNat = 1 := by omega
    rw [this]; rfl
  · intro h
    rw [h]; rfl
theorem polyStep (r : BitVec 32) : Go.bits .xor .u32 (((r >>> 1).toNat : Nat) : Int) 3988292384 = (((r >>> 1) ^^^ poly).toNat : Int) := by
  rw [xor32, of32]; rfl
theorem byteStep (r : BitVec 32) (b : Int) (h0 : 0 ≤ b) (h1 : b ≤ 255) : Go.bits .xor .u32 (r.toNat : Int) (b % 4294967296) = ((r ^^^ BitVec.ofInt 32 b).toNat : Int) := by
  rw [xor32, of32, show b % 4294967296 = b by omega]
theorem not32 (r : BitVec 32) : Go.bits .xor .u32 (r.toNat : Int) 4294967295 = ((~~~ r).toNat : Int) := by
  rw [xor32, of32]
  have e : BitVec.ofInt 32 4294967295 = BitVec.allOnes 32 := by decide +kernel
  rw [e, BitVec.xor_allOnes]
theorem not32' (r : BitVec 32) : Go.bits .xor .u32 4294967295 (r.toNat : Int) = ((~~~ r).toNat : Int) := by
  rw [xor32, of32]
  have e : BitVec.ofInt 32 4294967295 = BitVec.allOnes 32 := by decide +kernel
  rw [e, BitVec.allOnes_xor]
theorem mod32 (x : Int) : x % 4294967296 = ((BitVec.ofInt 32 x).toNat : Int) := by
  rw [BitVec.toNat_ofInt]
  omega
/-- The CRC that goes on from one. -/
def crcS (c : Int) (s : ByteArray) : Int := ((~~~ (crcFrom s 0 s.size (~~~ (BitVec.ofInt 32 c)))).toNat : Int)

end Go.Proofs.YtkgjikjnciihmaaH
