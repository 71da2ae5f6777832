/- How the machine's numbers of 32 and 8 digits stand for registers and bytes, and the table's cells; no condition. -/
import Derived.Test.YtdnfmcpphamicaaMath
import Derived.Laws.BitsLemmas
import Derived.Laws.Closers25b
namespace Go.Proofs.Ytdnfmcpphamicaa.Crc

/-- A register as a number. -/
def n32 (c : BitVec 32) : Int := (c.toNat : Int)
theorem n32_lo (c : BitVec 32) : 0 ≤ n32 c := Int.natCast_nonneg _
theorem n32_hi (c : BitVec 32) : n32 c ≤ 4294967295 := by unfold n32; have := c.isLt; omega
theorem n32_inj {c d : BitVec 32} (h : n32 c = n32 d) : c = d := BitVec.eq_of_toNat_eq (by unfold n32 at h; omega)
theorem of_n32 (c : BitVec 32) : BitVec.ofInt 32 (n32 c) = c := by unfold n32; rw [BitVec.ofInt_natCast]; simp

theorem bits_xor32 (a b : Int) : Go.bits .xor .u32 a b = n32 (BitVec.ofInt 32 a ^^^ BitVec.ofInt 32 b) := by
  show IntKind.u32.wrap ((BitVec.ofInt 32 a ^^^ BitVec.ofInt 32 b).toNat : Int) = _
  rw [IntKind.wrap_u32]
  unfold n32
  have := (BitVec.ofInt 32 a ^^^ BitVec.ofInt 32 b).isLt
  exact Int.emod_eq_of_lt (Int.natCast_nonneg _) (by omega)
theorem bits_and32 (a b : Int) : Go.bits .and .u32 a b = n32 (BitVec.ofInt 32 a &&& BitVec.ofInt 32 b) := by
  show IntKind.u32.wrap ((BitVec.ofInt 32 a &&& BitVec.ofInt 32 b).toNat : Int) = _
  rw [IntKind.wrap_u32]
  unfold n32
  have := (BitVec.ofInt 32 a &&& BitVec.ofInt 32 b).isLt
  exact Int.emod_eq_of_lt (Int.natCast_nonneg _) (by omega)
theorem bits_xor8 (a b : Int) : Go.bits .xor .u8 a b = ((BitVec.ofInt 8 a ^^^ BitVec.ofInt 8 b).toNat : Int) := by
  show IntKind.u8.wrap ((BitVec.ofInt 8 a ^^^ BitVec.ofInt 8 b).toNat : Int) = _
  rw [IntKind.wrap_u8]
  have := (BitVec.ofInt 8 a ^^^ BitVec.ofInt 8 b).isLt
  exact Int.emod_eq_of_lt (Int.natCast_nonneg _) (by omega)

theorem n32_shr (c : BitVec 32) (k : Nat) : n32 (c >>> k) = n32 c / 2 ^ k := by
  unfold n32
  rw [BitVec.toNat_ushiftRight, Nat.shiftRight_eq_div_pow]
  simp
theorem of_shr (c : BitVec 32) (k : Nat) : BitVec.ofInt 32 (n32 c / 2 ^ k) = c >>> k := by rw [← n32_shr, of_n32]

theorem low_and (c : BitVec 32) : c &&& 1#32 = if c.getLsbD 0 = true then 1#32 else 0#32 := by
  apply BitVec.eq_of_getLsbD_eq
  intro i hi
  rw [BitVec.getLsbD_and, BitVec.getLsbD_one]
  cases i with
  | zero => cases h : c.getLsbD 0 <;> simp
  | succ i => cases h : c.getLsbD 0 <;> simp

/-- One digit step, as the table's maker has it. -/
theorem step_table (c : BitVec 32) : Go.bits .xor .u32 (n32 c / 2) (Go.bits .and .u32 2197175160 ((-(Go.bits .and .u32 (n32 c) 1)) % 4294967296)) = n32 (st c) := by
  have h2 : BitVec.ofInt 32 (n32 c / 2) = c >>> 1 := of_shr c 1
  rw [bits_and32 (n32 c), of_n32, show BitVec.ofInt 32 1 = 1#32 by decide, low_and, bits_xor32, bits_and32, of_n32, h2]
  congr 1
  unfold st
  cases h : c.getLsbD 0
  · simp only [Bool.false_eq_true, if_false]
    rw [show BitVec.ofInt 32 ((-(n32 0#32)) % 4294967296) = 0#32 by decide, BitVec.and_zero, BitVec.xor_zero]
  · simp only [if_true]
    rw [show BitVec.ofInt 32 ((-(n32 1#32)) % 4294967296) = BitVec.allOnes 32 by decide, BitVec.and_allOnes]
    rfl

/-- The low byte of a register, against a byte: a place in the table. -/
def place (c : BitVec 32) (x : Int) : Nat := (c.setWidth 8 ^^^ by8 x).toNat
theorem place_lt (c : BitVec 32) (x : Int) : place c x < 256 := (c.setWidth 8 ^^^ by8 x).isLt
theorem low_byte (c : BitVec 32) : BitVec.ofInt 8 (n32 c % 256) = c.setWidth 8 := by
  unfold n32
  apply BitVec.eq_of_toNat_eq
  rw [show ((c.toNat : Int) % 256) = ((c.toNat % 256 : Nat) : Int) by omega, BitVec.ofInt_natCast]
  simp
theorem place_eq (c : BitVec 32) (x : Int) : Go.bits .xor .u8 (n32 c % 256) x = (place c x : Int) := by
  rw [bits_xor8, low_byte]; rfl

/-- The table's entry. -/
def ent (j : Nat) : BitVec 32 := st8 (BitVec.ofNat 32 j)
theorem place_reg (c : BitVec 32) (x : Int) : BitVec.ofNat 32 (place c x) = (c.setWidth 8 ^^^ by8 x).setWidth 32 := by
  unfold place
  apply BitVec.eq_of_toNat_eq
  rw [BitVec.toNat_ofNat, BitVec.toNat_setWidth]
theorem up_ent (c : BitVec 32) (x : Int) : Go.bits .xor .u32 (n32 (ent (place c x))) (n32 c / 256) = n32 (up c (by8 x)) := by
  rw [bits_xor32, of_n32, show BitVec.ofInt 32 (n32 c / 256) = c >>> 8 from of_shr c 8, up_table]
  unfold ent
  rw [place_reg]

theorem xor_ones (c : BitVec 32) : Go.bits .xor .u32 (n32 c) 4294967295 = n32 (c ^^^ ones) := by
  rw [bits_xor32, of_n32]; rfl

/-- The table's cells when n of them are made. -/
def tabTo (n : Nat) : Array Value := ((List.range 256).map fun j => if j < n then Value.int .u32 (n32 (ent j)) else .int .u32 0).toArray
theorem tabTo_size (n : Nat) : (tabTo n).size = 256 := by simp [tabTo]
theorem tabTo_at (n j : Nat) (h : j < 256) : (tabTo n)[j]? = some (if j < n then Value.int .u32 (n32 (ent j)) else .int .u32 0) := by
  simp [tabTo, h]
theorem tabTo_zero : tabTo 0 = Array.replicate 256 (.int .u32 0) := by
  apply Array.ext
  · simp [tabTo]
  · intro i h1 h2; simp [tabTo]
theorem tabTo_set (n : Nat) : (tabTo n).setIfInBounds n (.int .u32 (n32 (ent n))) = tabTo (n + 1) := by
  apply Array.ext
  · simp [tabTo]
  · intro i h1 h2
    rw [Array.getElem_setIfInBounds (by simpa using h1)]
    by_cases e : n = i
    · subst e; simp [tabTo]
    · rw [if_neg e]
      simp only [tabTo, List.getElem_toArray, List.getElem_map, List.getElem_range]
      by_cases e2 : i < n
      · rw [if_pos e2, if_pos (by omega)]
      · rw [if_neg e2, if_neg (by omega)]
/-- The whole table. -/
def tab : Array Value := tabTo 256
theorem tab_size : tab.size = 256 := tabTo_size _
theorem tab_at (j : Nat) (h : j < 256) : tab[j]? = some (Value.int .u32 (n32 (ent j))) := by
  unfold tab; rw [tabTo_at _ _ h, if_pos h]

theorem sts8 (c : BitVec 32) : sts 8 c = st8 c := rfl

end Go.Proofs.Ytdnfmcpphamicaa.Crc
