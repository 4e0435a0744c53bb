/- Names of memory, as numbers. -/
import Derived.Test.YtgnifhkjpekkdaaFwWp
namespace Go.Fw
open Go

theorem w64_nat {n : Nat} (h : n < 9223372036854775808) : w64 (n : Int) = n := w64_in (by omega) (by omega)

theorem ofInt_nat (n : Nat) : BitVec.ofInt 64 (n : Int) = BitVec.ofNat 64 n := by
  apply BitVec.eq_of_toNat_eq; simp

theorem ior_nat {x y : Nat} (hx : x < 2 ^ 63) (hy : y < 2 ^ 63) : ior (x : Int) (y : Int) = ((x ||| y : Nat) : Int) := by
  unfold ior
  rw [ofInt_nat, ofInt_nat, BitVec.toNat_or, BitVec.toNat_ofNat, BitVec.toNat_ofNat, Nat.mod_eq_of_lt (by omega), Nat.mod_eq_of_lt (by omega)]
  have := Nat.or_lt_two_pow hx hy
  exact w64_nat (by omega)

theorem iand_mask (x : Int) (k : Nat) (hk : k ≤ 62) : iand x ((2 ^ k - 1 : Nat) : Int) = x % (2 ^ k : Nat) := by
  unfold iand
  have hlt : 2 ^ k ≤ 2 ^ 62 := Nat.pow_le_pow_right (by omega) hk
  have hpos : 0 < 2 ^ k := Nat.two_pow_pos k
  rw [ofInt_nat, BitVec.toNat_and, BitVec.toNat_ofNat, Nat.mod_eq_of_lt (by omega : 2 ^ k - 1 < 2 ^ 64), Nat.and_two_pow_sub_one_eq_mod, BitVec.toNat_ofInt]
  have h1 : (((x % ((2 ^ 64 : Nat) : Int)).toNat % 2 ^ k : Nat) : Int) = x % ((2 ^ k : Nat) : Int) := by
    have hnn : 0 ≤ x % ((2 ^ 64 : Nat) : Int) := Int.emod_nonneg _ (by decide)
    rw [Int.natCast_emod, Int.toNat_of_nonneg hnn, Int.emod_emod_of_dvd]
    exact Int.natCast_dvd_natCast.2 (Nat.pow_dvd_pow 2 (by omega))
  rw [h1]
  have h2 := Int.emod_nonneg x (b := ((2 ^ k : Nat) : Int)) (by omega)
  have h3 := Int.emod_lt_of_pos x (b := ((2 ^ k : Nat) : Int)) (by omega)
  exact w64_in (by omega) (by omega)

/-- A name. -/
def packN (b g c : Int) : Int := 1125899906842624 + c + 4 * g + 4294967296 * b

def validN (b g c : Int) : Prop := 0 ≤ b ∧ b < 65536 ∧ 1 ≤ g ∧ g ≤ 1073741823 ∧ 0 ≤ c ∧ c < 4

instance (b g c : Int) : Decidable (validN b g c) := by unfold validN; infer_instance

def packF (b g c : Int) : Int := if validN b g c then packN b g c else 0

def oBase (h : Int) : Int := (h / 4294967296) % 262144
def oGen (h : Int) : Int := (h / 4) % 1073741824
def oClass (h : Int) : Int := h % 4
def openOk (h : Int) : Bool := decide (h ≠ 0 ∧ packF (oBase h) (oGen h) (oClass h) = h)

theorem open_pack {b g c : Int} (h : validN b g c) : oBase (packN b g c) = b ∧ oGen (packN b g c) = g ∧ oClass (packN b g c) = c ∧ openOk (packN b g c) = true := by
  obtain ⟨h1, h2, h3, h4, h5, h6⟩ := h
  have e1 : oBase (packN b g c) = b := by unfold oBase packN; omega
  have e2 : oGen (packN b g c) = g := by unfold oGen packN; omega
  have e3 : oClass (packN b g c) = c := by unfold oClass packN; omega
  refine ⟨e1, e2, e3, ?_⟩
  unfold openOk
  rw [e1, e2, e3, packF, if_pos ⟨h1, h2, h3, h4, h5, h6⟩]
  simp only [decide_eq_true_eq, and_true]
  unfold packN; omega

theorem open_ok {h : Int} (hk : openOk h = true) : validN (oBase h) (oGen h) (oClass h) ∧ h = packN (oBase h) (oGen h) (oClass h) := by
  unfold openOk at hk
  simp only [decide_eq_true_eq] at hk
  obtain ⟨h0, h1⟩ := hk
  unfold packF at h1
  split at h1
  · rename_i hv; exact ⟨hv, h1.symm⟩
  · exact absurd h1.symm h0

theorem or_step1 (c : Nat) (hc : c < 4) : 1125899906842624 ||| c = 1125899906842624 + c := by
  have := Nat.two_pow_add_eq_or_of_lt (i := 50) (b := c) (by omega) 1; simp only [Nat.reducePow, Nat.mul_one] at this
  omega

theorem or_step2 (c g : Nat) (hc : c < 4) (hg : g < 1073741824) : (1125899906842624 + c) ||| (4 * g) = 1125899906842624 + c + 4 * g := by
  have h1 := Nat.two_pow_add_eq_or_of_lt (i := 2) (b := c) (by omega) g; simp only [Nat.reducePow] at h1
  have h2 := Nat.two_pow_add_eq_or_of_lt (i := 50) (b := 4 * g + c) (by omega) 1; simp only [Nat.reducePow, Nat.mul_one] at h2
  rw [← or_step1 c hc, Nat.or_assoc, Nat.or_comm c]
  have e : 4 * g ||| c = 4 * g + c := by omega
  have h3 := or_step1 c hc
  rw [e]; omega

theorem or_step3 (c g b : Nat) (hc : c < 4) (hg : g < 1073741824) (hb : b < 262144) : (1125899906842624 + c + 4 * g) ||| (4294967296 * b) = 1125899906842624 + c + 4 * g + 4294967296 * b := by
  have h1 := Nat.two_pow_add_eq_or_of_lt (i := 32) (b := 4 * g + c) (by omega) b; simp only [Nat.reducePow] at h1
  have h2 := Nat.two_pow_add_eq_or_of_lt (i := 50) (b := 4294967296 * b + (4 * g + c)) (by omega) 1; simp only [Nat.reducePow, Nat.mul_one] at h2
  have h3 := Nat.two_pow_add_eq_or_of_lt (i := 50) (b := 4 * g + c) (by omega) 1; simp only [Nat.reducePow, Nat.mul_one] at h3
  have e0 : 1125899906842624 + c + 4 * g = 1125899906842624 ||| (4 * g + c) := by omega
  rw [e0, Nat.or_assoc, Nat.or_comm (4 * g + c)]
  have e : 4294967296 * b ||| (4 * g + c) = 4294967296 * b + (4 * g + c) := by omega
  rw [e]; omega

theorem ior1 {c : Nat} (hc : c < 4) : ior 1125899906842624 (c : Int) = 1125899906842624 + (c : Int) := by
  have h := ior_nat (x := 1125899906842624) (y := c) (by omega) (by omega)
  rw [or_step1 c hc] at h
  have e : ((1125899906842624 + c : Nat) : Int) = 1125899906842624 + (c : Int) := by omega
  rw [e] at h; exact h

theorem ior2 {c g : Nat} (hc : c < 4) (hg : g < 1073741824) : ior (1125899906842624 + (c : Int)) ((4 * g : Nat) : Int) = 1125899906842624 + (c : Int) + 4 * (g : Int) := by
  have h := ior_nat (x := 1125899906842624 + c) (y := 4 * g) (by omega) (by omega)
  rw [or_step2 c g hc hg] at h
  have e : ((1125899906842624 + c : Nat) : Int) = 1125899906842624 + (c : Int) := by omega
  have e' : ((1125899906842624 + c + 4 * g : Nat) : Int) = 1125899906842624 + (c : Int) + 4 * (g : Int) := by omega
  rw [e, e'] at h; exact h

theorem ior3 {c g b : Nat} (hc : c < 4) (hg : g < 1073741824) (hb : b < 262144) : ior (1125899906842624 + (c : Int) + 4 * (g : Int)) ((4294967296 * b : Nat) : Int) = packN b g c := by
  have h := ior_nat (x := 1125899906842624 + c + 4 * g) (y := 4294967296 * b) (by omega) (by omega)
  rw [or_step3 c g b hc hg hb] at h
  have e : ((1125899906842624 + c + 4 * g : Nat) : Int) = 1125899906842624 + (c : Int) + 4 * (g : Int) := by omega
  have e' : ((1125899906842624 + c + 4 * g + 4294967296 * b : Nat) : Int) = packN b g c := by unfold packN; omega
  rw [e, e'] at h; exact h

theorem shl0 {c : Nat} (hc : c < 4) : w64 ((c : Int) * 2 ^ (min (Int.toNat 0) 64)) = (c : Int) := by
  rw [show min (Int.toNat 0) 64 = 0 from rfl, Int.pow_zero, Int.mul_one]; exact w64_nat (by omega)

theorem shl2 {g : Nat} (hg : g < 1073741824) : w64 ((g : Int) * 2 ^ (min (Int.toNat 2) 64)) = ((4 * g : Nat) : Int) := by
  rw [show (2 : Int) ^ (min (Int.toNat 2) 64) = 4 from rfl, show (g : Int) * 4 = ((4 * g : Nat) : Int) by omega]; exact w64_nat (by omega)

theorem shl32 {b : Nat} (hb : b < 262144) : w64 ((b : Int) * 2 ^ (min (Int.toNat 32) 64)) = ((4294967296 * b : Nat) : Int) := by
  rw [show (2 : Int) ^ (min (Int.toNat 32) 64) = 4294967296 from rfl, show (b : Int) * 4294967296 = ((4294967296 * b : Nat) : Int) by omega]; exact w64_nat (by omega)

theorem w64_1 : w64 (0 + 1) = 1 := w64_in (by omega) (by omega)
theorem w64_2 : w64 (1 + 1) = 2 := w64_in (by omega) (by omega)
theorem w64_3 : w64 (2 + 1) = 3 := w64_in (by omega) (by omega)

def sizeF (c : Int) : Int := if c < 0 then 0 else if c ≥ 4 then 0 else 8 * 2 ^ c.toNat

theorem sizeF_cases {c : Int} (h0 : 0 ≤ c) (h1 : c < 4) : (c = 0 ∧ sizeF c = 8) ∨ (c = 1 ∧ sizeF c = 16) ∨ (c = 2 ∧ sizeF c = 32) ∨ (c = 3 ∧ sizeF c = 64) := by
  have : c = 0 ∨ c = 1 ∨ c = 2 ∨ c = 3 := by omega
  rcases this with rfl | rfl | rfl | rfl <;> simp [sizeF]
end Go.Fw
