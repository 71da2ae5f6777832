/- The plain law of CRC-32C over registers of 32 digits: a step is linear and one to one, the table's byte step is eight digit steps, and what follows for parted rows, flipped digits and xors; no condition. -/
import Derived.RowKit
namespace Go.Proofs.Ytdnfmcpphamicaa.Crc

/-- One digit falls out of the register. -/
def st (c : BitVec 32) : BitVec 32 := if c.getLsbD 0 = true then (c >>> 1) ^^^ 0x82F63B78#32 else c >>> 1
def st8 (c : BitVec 32) : BitVec 32 := st (st (st (st (st (st (st (st c)))))))

theorem st_xor (a b : BitVec 32) : st (a ^^^ b) = st a ^^^ st b := by
  unfold st
  rw [BitVec.getLsbD_xor, BitVec.ushiftRight_xor_distrib]
  cases a.getLsbD 0 <;> cases b.getLsbD 0 <;> simp
  · exact BitVec.xor_assoc _ _ _
  · rw [BitVec.xor_assoc, BitVec.xor_comm (b >>> 1), ← BitVec.xor_assoc]
  · rw [BitVec.xor_assoc, ← BitVec.xor_assoc (0x82F63B78#32) (b >>> 1), BitVec.xor_comm (0x82F63B78#32) (b >>> 1), BitVec.xor_assoc (b >>> 1), BitVec.xor_self, BitVec.xor_zero]

theorem st_even (z : BitVec 32) (h : z.getLsbD 0 = false) : st z = z >>> 1 := by unfold st; rw [h]; rfl

theorem st_zero {d : BitVec 32} (h : st d = 0#32) : d = 0#32 := by
  unfold st at h
  by_cases e : d.getLsbD 0 = true
  · rw [if_pos e] at h
    have h2 : (d >>> 1 ^^^ 0x82F63B78#32).getLsbD 31 = (0#32).getLsbD 31 := by rw [h]
    rw [BitVec.getLsbD_xor, BitVec.getLsbD_ushiftRight] at h2
    have h3 : d.getLsbD (1 + 31) = false := BitVec.getLsbD_of_ge _ _ (by omega)
    rw [h3] at h2
    exact absurd h2 (by decide)
  · rw [if_neg e] at h
    apply BitVec.eq_of_getLsbD_eq
    intro i hi
    cases i with
    | zero => simpa using e
    | succ i =>
      have h2 : (d >>> 1).getLsbD i = (0#32).getLsbD i := by rw [h]
      rw [BitVec.getLsbD_ushiftRight] at h2
      rw [Nat.add_comm i 1, h2]; simp

theorem st8_xor (a b : BitVec 32) : st8 (a ^^^ b) = st8 a ^^^ st8 b := by simp only [st8, st_xor]
theorem st8_zero {d : BitVec 32} (h : st8 d = 0#32) : d = 0#32 := by
  unfold st8 at h
  exact st_zero (st_zero (st_zero (st_zero (st_zero (st_zero (st_zero (st_zero h)))))))
theorem st8_0 : st8 0#32 = 0#32 := by decide

theorem xor_eq_zero {a b : BitVec 32} (h : a ^^^ b = 0#32) : a = b := by
  have h2 : a ^^^ b ^^^ b = 0#32 ^^^ b := by rw [h]
  rwa [BitVec.xor_assoc, BitVec.xor_self, BitVec.xor_zero, BitVec.zero_xor] at h2

theorem st8_inj {a b : BitVec 32} (h : st8 a = st8 b) : a = b := by
  apply xor_eq_zero
  apply st8_zero
  rw [st8_xor, h, BitVec.xor_self]

/-- Where the low eight digits are noughts, eight steps only shift. -/
theorem st8_high (z : BitVec 32) (h : ∀ k, k < 8 → z.getLsbD k = false) : st8 z = z >>> 8 := by
  have g : ∀ k, k < 8 → st (z >>> k) = z >>> (k + 1) := fun k hk => by
    rw [st_even _ (by rw [BitVec.getLsbD_ushiftRight]; exact h k hk), BitVec.shiftRight_add]
  have g0 : st z = z >>> 1 := st_even _ (h 0 (by omega))
  unfold st8
  rw [g0, g 1 (by omega), g 2 (by omega), g 3 (by omega), g 4 (by omega), g 5 (by omega), g 6 (by omega), g 7 (by omega)]

/-- What a byte does to a register. -/
def up (c : BitVec 32) (x : BitVec 8) : BitVec 32 := st8 (c ^^^ x.setWidth 32)

theorem parts8 (c : BitVec 32) (x : BitVec 8) : c ^^^ x.setWidth 32 = (c.setWidth 8 ^^^ x).setWidth 32 ^^^ ((c >>> 8) <<< 8) := by
  apply BitVec.eq_of_getLsbD_eq
  intro i hi
  simp only [BitVec.getLsbD_xor, BitVec.getLsbD_setWidth, BitVec.getLsbD_shiftLeft, BitVec.getLsbD_ushiftRight]
  by_cases h8 : i < 8
  · simp [h8, hi]
  · have h3 : x.getLsbD i = false := BitVec.getLsbD_of_ge _ _ (by omega)
    have h4 : 8 + (i - 8) = i := by omega
    simp [h8, hi, h3, h4]

/-- By the table: eight digit steps of the low byte, and the rest shifted. -/
theorem up_table (c : BitVec 32) (x : BitVec 8) : up c x = st8 ((c.setWidth 8 ^^^ x).setWidth 32) ^^^ (c >>> 8) := by
  unfold up
  rw [parts8, st8_xor]
  congr 1
  rw [st8_high]
  · apply BitVec.eq_of_getLsbD_eq
    intro i hi
    simp only [BitVec.getLsbD_shiftLeft, BitVec.getLsbD_ushiftRight]
    by_cases h : 8 + i < 32
    · simp [h]
    · have h3 : c.getLsbD (8 + i) = false := BitVec.getLsbD_of_ge _ _ (by omega)
      simp [h]; exact (h3 ▸ rfl)
  · intro k hk
    simp only [BitVec.getLsbD_shiftLeft]; simp [hk]

/-- Digit by digit: the register after k digits of x, as the reference has it. -/
def digits (c : BitVec 32) (x : BitVec 8) : Nat → BitVec 32
  | 0 => c
  | k + 1 => st (digits c x k ^^^ ((x.setWidth 32 >>> k) &&& 1#32))

def sts : Nat → BitVec 32 → BitVec 32
  | 0, c => c
  | k + 1, c => st (sts k c)

theorem low_digit (z : BitVec 32) : z = (z &&& 1#32) ^^^ ((z >>> 1) <<< 1) := by
  apply BitVec.eq_of_getLsbD_eq
  intro i hi
  simp only [BitVec.getLsbD_xor, BitVec.getLsbD_and, BitVec.getLsbD_shiftLeft, BitVec.getLsbD_ushiftRight, BitVec.getLsbD_one]
  cases i with
  | zero => simp
  | succ i =>
    simp [Nat.add_comm 1 i]
    intro _; omega

theorem digits_sts (c : BitVec 32) (x : BitVec 8) (k : Nat) : digits c x k ^^^ (x.setWidth 32 >>> k) = sts k (c ^^^ x.setWidth 32) := by
  induction k with
  | zero => simp [digits, sts]
  | succ k ih =>
    simp only [digits, sts]
    rw [← ih]
    have e := low_digit (x.setWidth 32 >>> k)
    have e2 : digits c x k ^^^ (x.setWidth 32 >>> k) = (digits c x k ^^^ ((x.setWidth 32 >>> k) &&& 1#32)) ^^^ ((x.setWidth 32 >>> k >>> 1) <<< 1) := by
      rw [BitVec.xor_assoc, ← e]
    rw [e2, st_xor (digits c x k ^^^ ((x.setWidth 32 >>> k) &&& 1#32)) (x.setWidth 32 >>> k >>> 1 <<< 1), st_even (x.setWidth 32 >>> k >>> 1 <<< 1) (by simp), BitVec.shiftRight_add]
    congr 1
    apply BitVec.eq_of_getLsbD_eq
    intro i hi
    simp only [BitVec.getLsbD_shiftLeft, BitVec.getLsbD_ushiftRight]
    by_cases h : 1 + i < 32
    · simp [h]
    · have h3 : x.getLsbD (k + 1 + i) = false := BitVec.getLsbD_of_ge _ _ (by omega)
      rw [Nat.add_assoc] at h3
      simp [h]; intro _; exact h3

theorem digits_up (c : BitVec 32) (x : BitVec 8) : digits c x 8 = up c x := by
  have h := digits_sts c x 8
  have z : x.setWidth 32 >>> 8 = 0#32 := by
    apply BitVec.eq_of_getLsbD_eq
    intro i hi
    simp
  rw [z, BitVec.xor_zero] at h
  exact h


/-- Numbers as bytes. -/
def by8 (x : Int) : BitVec 8 := BitVec.ofInt 8 x
/-- A register that bytes go through. -/
def run (c : BitVec 32) (l : List Int) : BitVec 32 := l.foldl (fun c x => up c (by8 x)) c
def ones : BitVec 32 := 0xFFFFFFFF#32
/-- A check that goes on with bytes. -/
def upd (c : BitVec 32) (l : List Int) : BitVec 32 := run (c ^^^ ones) l ^^^ ones
/-- The check of rows. -/
def sum (ls : List (List Int)) : BitVec 32 := ls.foldl upd 0#32

theorem run_nil (c : BitVec 32) : run c [] = c := rfl
theorem run_cons (c : BitVec 32) (x : Int) (l : List Int) : run c (x :: l) = run (up c (by8 x)) l := rfl
theorem run_append (c : BitVec 32) (a b : List Int) : run c (a ++ b) = run (run c a) b := List.foldl_append
theorem ones2 (c : BitVec 32) : c ^^^ ones ^^^ ones = c := by rw [BitVec.xor_assoc, BitVec.xor_self, BitVec.xor_zero]
theorem upd_nil (c : BitVec 32) : upd c [] = c := ones2 c
theorem upd_append (c : BitVec 32) (a b : List Int) : upd c (a ++ b) = upd (upd c a) b := by
  unfold upd; rw [run_append, ones2]
theorem sum_cons (l : List Int) (ls : List (List Int)) : sum (l :: ls) = ls.foldl upd (upd 0#32 l) := rfl
theorem foldl_upd (c : BitVec 32) (ls : List (List Int)) : ls.foldl upd c = upd c ls.flatten := by
  induction ls generalizing c with
  | nil => exact (upd_nil c).symm
  | cons l ls ih => rw [List.foldl_cons, ih, List.flatten_cons, upd_append]
theorem sum_flat (ls : List (List Int)) : sum ls = upd 0#32 ls.flatten := foldl_upd _ _

/-! parted rows -/
theorem sum_three (a b c : List Int) : sum [a, b, c] = sum [a ++ (b ++ c)] := by
  rw [sum_flat, sum_flat]; simp
theorem upd_sum (a b : List Int) : upd (sum [a]) b = sum [a ++ b] := by
  rw [sum_flat, sum_flat, ← upd_append]; simp
theorem upd_upd_upd (a b c : List Int) : upd (upd (upd 0#32 a) b) c = sum [a ++ (b ++ c)] := by
  rw [sum_flat, ← upd_append, ← upd_append]; simp
theorem sum_around (a : List Int) : sum [[], a, []] = sum [a] := by
  rw [sum_flat, sum_flat]; simp

/-! two registers, one row; two rows -/
theorem run_inj {c d : BitVec 32} {l : List Int} (h : run c l = run d l) : c = d := by
  induction l generalizing c d with
  | nil => exact h
  | cons x l ih =>
    have h1 : c ^^^ (by8 x).setWidth 32 = d ^^^ (by8 x).setWidth 32 := st8_inj (ih h)
    have h2 := congrArg (· ^^^ (by8 x).setWidth 32) h1
    simpa only [BitVec.xor_assoc, BitVec.xor_self, BitVec.xor_zero] using h2

theorem upd_inj {c d : BitVec 32} {l : List Int} (h : upd c l = upd d l) : c = d := by
  have h1 : run (c ^^^ ones) l = run (d ^^^ ones) l := by
    have := congrArg (· ^^^ ones) h
    simpa only [upd, ones2] using this
  have := congrArg (· ^^^ ones) (run_inj h1)
  simpa only [ones2] using this

theorem setWidth_xor8 (x y : BitVec 8) : (x ^^^ y).setWidth 32 = x.setWidth 32 ^^^ y.setWidth 32 := by
  apply BitVec.eq_of_getLsbD_eq
  intro i hi
  simp only [BitVec.getLsbD_xor, BitVec.getLsbD_setWidth]
  simp [hi]

theorem xor4 (a b c d : BitVec 32) : (a ^^^ b) ^^^ (c ^^^ d) = (a ^^^ c) ^^^ (b ^^^ d) := by
  rw [BitVec.xor_assoc, ← BitVec.xor_assoc b c d, BitVec.xor_comm b c, BitVec.xor_assoc c b d, ← BitVec.xor_assoc]

theorem up_xor (c d : BitVec 32) (x y : BitVec 8) : up (c ^^^ d) (x ^^^ y) = up c x ^^^ up d y := by
  unfold up
  rw [setWidth_xor8, xor4, st8_xor]

/-- Of rows whose bytes are the xors, place by place. -/
theorem run_xor (c d : BitVec 32) : ∀ (a b x : List Int), a.length = x.length → b.length = x.length → (∀ i, i < x.length → by8 (x.getD i 0) = by8 (a.getD i 0) ^^^ by8 (b.getD i 0)) → run (c ^^^ d) x = run c a ^^^ run d b := by
  intro a b x
  induction x generalizing a b c d with
  | nil =>
    intro ha hb _
    cases a with
    | nil => cases b with
      | nil => rfl
      | cons _ _ => simp at hb
    | cons _ _ => simp at ha
  | cons z x ih =>
    intro ha hb h
    cases a with
    | nil => simp at ha
    | cons p a =>
      cases b with
      | nil => simp at hb
      | cons q b =>
        have h0 : by8 z = by8 p ^^^ by8 q := h 0 (by simp)
        rw [run_cons, run_cons, run_cons, h0, up_xor]
        exact ih _ _ a b (by simpa using ha) (by simpa using hb) (fun i hi => h (i + 1) (by simpa using hi))

theorem xor3_ones (a b c : BitVec 32) : (a ^^^ ones) ^^^ (b ^^^ ones) ^^^ (c ^^^ ones) = (a ^^^ b ^^^ c) ^^^ ones := by
  rw [xor4 a ones b ones, BitVec.xor_self, BitVec.xor_zero, ← BitVec.xor_assoc]

/-- The xor of two rows' checks, and that of noughts. -/
theorem sum_xor (a b x : List Int) (ha : a.length = x.length) (hb : b.length = x.length) (h : ∀ i, i < x.length → by8 (x.getD i 0) = by8 (a.getD i 0) ^^^ by8 (b.getD i 0)) :
    sum [x] = sum [a] ^^^ sum [b] ^^^ sum [List.replicate x.length 0] := by
  have e : ∀ l : List Int, sum [l] = run ones l ^^^ ones := fun l => by
    show upd 0#32 l = _
    unfold upd; rw [BitVec.zero_xor]
  rw [e, e, e, e, xor3_ones, ← run_xor ones ones a b x ha hb h, ← run_xor (ones ^^^ ones) ones x (List.replicate x.length 0) x rfl (by simp)]
  · rw [BitVec.xor_self, BitVec.zero_xor]
  · intro i hi
    have : (List.replicate x.length (0 : Int)).getD i 0 = 0 := by simp [List.getD_eq_getElem?_getD, hi]
    rw [this]
    have z : by8 0 = 0#8 := by decide
    rw [z, BitVec.xor_zero]

/-! flipped digits -/
theorem run_split (c : BitVec 32) (l : List Int) (p : Nat) (hp : p < l.length) : run c l = run (up (run c (l.take p)) (by8 (l.getD p 0))) (l.drop (p + 1)) := by
  have e : l = l.take p ++ l.getD p 0 :: l.drop (p + 1) := by
    rw [List.getD_eq_getElem?_getD, List.getElem?_eq_getElem hp]
    simp
  conv => lhs; rw [e]
  rw [run_append, run_cons]

theorem up_ne {c : BitVec 32} {x y : BitVec 8} (h : x ≠ y) : up c x ≠ up c y := fun e => h (by
  have h1 := st8_inj e
  have h2 := congrArg (c ^^^ ·) h1
  simp only [← BitVec.xor_assoc, BitVec.xor_self, BitVec.zero_xor] at h2
  have h3 := congrArg (BitVec.setWidth 8) h2
  simpa using h3)

/-- One byte another one: another check. -/
theorem sum_set_ne (l : List Int) (p : Nat) (hp : p < l.length) (y : Int) (h : by8 y ≠ by8 (l.getD p 0)) : sum [l.set p y] ≠ sum [l] := fun e => by
  have e1 : run (0#32 ^^^ ones) (l.set p y) = run (0#32 ^^^ ones) l := by
    have := congrArg (· ^^^ ones) (show upd 0#32 (l.set p y) = upd 0#32 l from e)
    simpa only [upd, ones2] using this
  rw [run_split _ l p hp, run_split _ (l.set p y) p (by simpa using hp)] at e1
  have h1 : (l.set p y).take p = l.take p := by rw [List.take_set_of_le (Nat.le_refl _)]
  have h2 : (l.set p y).drop (p + 1) = l.drop (p + 1) := by rw [List.drop_set_of_lt (by omega)]
  have h3 : (l.set p y).getD p 0 = y := by simp [List.getD_eq_getElem?_getD, hp]
  rw [h1, h2, h3] at e1
  exact up_ne h (run_inj e1)

set_option maxRecDepth 100000 in
theorem by8_128_1 : up (up 0#32 128#8) 1#8 ≠ 0#32 := by decide +kernel

/-- The last digit of one byte and the first of the next: another check. -/
theorem sum_set2_ne (l : List Int) (p : Nat) (hp : p + 1 < l.length) (y z : Int) (hy : by8 y = by8 (l.getD p 0) ^^^ 128#8) (hz : by8 z = by8 (l.getD (p + 1) 0) ^^^ 1#8) :
    sum [(l.set p y).set (p + 1) z] ≠ sum [l] := fun e => by
  have e1 : run (0#32 ^^^ ones) ((l.set p y).set (p + 1) z) = run (0#32 ^^^ ones) l := by
    have := congrArg (· ^^^ ones) (show upd 0#32 ((l.set p y).set (p + 1) z) = upd 0#32 l from e)
    simpa only [upd, ones2] using this
  rw [run_split _ l (p + 1) hp, run_split _ (l.take (p + 1)) p (by simp; omega), run_split _ ((l.set p y).set (p + 1) z) (p + 1) (by simpa using hp)] at e1
  have h1 : ((l.set p y).set (p + 1) z).take (p + 1) = (l.take (p + 1)).set p y := by
    rw [List.take_set_of_le (Nat.le_refl _), List.take_set]
  have h2 : ((l.set p y).set (p + 1) z).drop (p + 1 + 1) = l.drop (p + 1 + 1) := by rw [List.drop_set_of_lt (by omega), List.drop_set_of_lt (by omega)]
  have h3 : ((l.set p y).set (p + 1) z).getD (p + 1) 0 = z := by simp [List.getD_eq_getElem?_getD, hp]
  rw [h1, h2, h3, run_split _ ((l.take (p + 1)).set p y) p (by simp; omega)] at e1
  have h4 : ((l.take (p + 1)).set p y).take p = (l.take (p + 1)).take p := by rw [List.take_set_of_le (Nat.le_refl _)]
  have h5 : ((l.take (p + 1)).set p y).drop (p + 1) = (l.take (p + 1)).drop (p + 1) := by rw [List.drop_set_of_lt (by omega)]
  have h6 : ((l.take (p + 1)).set p y).getD p 0 = y := by
    have : p < (l.take (p + 1)).length := by simp; omega
    rw [List.getD_eq_getElem?_getD, List.getElem?_set_self this]; rfl
  have h7 : (l.take (p + 1)).getD p 0 = l.getD p 0 := by
    simp [List.getD_eq_getElem?_getD]
  have h8 : (l.take (p + 1)).drop (p + 1) = [] := by simp
  rw [h4, h5, h6, h7, h8, run_nil, run_nil, hy, hz] at e1
  have e2 := run_inj e1
  generalize run (0#32 ^^^ ones) ((l.take (p + 1)).take p) = c at e2
  generalize by8 (l.getD p 0) = x at e2
  generalize by8 (l.getD (p + 1) 0) = x' at e2
  have a1 : up c (x ^^^ 128#8) = up c x ^^^ up 0#32 128#8 := by
    conv => lhs; rw [← BitVec.xor_zero (x := c)]
    exact up_xor _ _ _ _
  rw [a1, up_xor] at e2
  have e3 := congrArg (up (up c x) x' ^^^ ·) e2
  simp only [← BitVec.xor_assoc, BitVec.xor_self, BitVec.zero_xor] at e3
  exact by8_128_1 e3

end Go.Proofs.Ytdnfmcpphamicaa.Crc
