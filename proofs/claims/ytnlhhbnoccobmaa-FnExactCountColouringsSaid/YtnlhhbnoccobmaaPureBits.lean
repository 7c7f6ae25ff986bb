/- Plain laws about the bits of whole numbers. -/
import Derived.Test.YtnlhhbnoccobmaaWMore
import Derived.Laws.BitsLemmas
import Derived.Laws.Bits64
namespace Go.Proofs.Ytnlhhbnoccobmaa.Pure
open Go.RowKit Go.Proofs.YtnlhhbnoccobmaaW.PrintWords Go.Proofs.YtnlhhbnoccobmaaW.PrintLast
theorem wraps_i64 (n : Int) (h₀ : 0 ≤ n) (h₁ : n < 2 ^ 63) : IntKind.i64.wrap n = n := by rw [IntKind.wrap_i64]; omega
theorem u64_nat (i : Nat) (h : i < 64) : IntKind.u64.wrap (i : Int) = (i : Int) := by rw [IntKind.wrap_u64]; omega
theorem shr_nat (t i : Nat) (h : i < 64) : shr .i64 (t : Int) (i : Int) = ((t / 2 ^ i : Nat) : Int) := by
  unfold shr
  rw [Int.toNat_natCast, show IntKind.i64.bits = 64 from rfl, Nat.min_eq_left (by omega)]
  simp
theorem and1_nat (t : Nat) (h : t < 2 ^ 63) : Go.bits .and .i64 (t : Int) 1 = ((t % 2 : Nat) : Int) := by
  have := bits_mask .i64 63 (by decide) wraps_i64 1 (by decide) (t : Int) (by omega) (by exact_mod_cast h)
  simpa using this
theorem bit_at (t i : Nat) (ht : t < 2 ^ 62) (hi : i < 64) : Go.bits .and .i64 (shr .i64 (t : Int) (i : Int)) 1 = if t.testBit i = true then 1 else 0 := by
  rw [shr_nat t i hi, and1_nat _ (Nat.lt_of_le_of_lt (Nat.div_le_self _ _) (by omega)), Nat.testBit_eq_decide_div_mod_eq]
  by_cases h : t / 2 ^ i % 2 = 1
  · simp [h]
  · rw [if_neg (by simpa using h)]; omega
theorem shl_nat (i : Nat) (h : i < 62) : shl .i64 1 (i : Int) = ((2 ^ i : Nat) : Int) := by
  unfold shl
  rw [Int.toNat_natCast, show IntKind.i64.bits = 64 from rfl, Nat.min_eq_left (by omega), Int.one_mul]
  have h1 : (2 : Int) ^ i = ((2 ^ i : Nat) : Int) := by simp
  have h2 : 2 ^ i < 2 ^ 62 := Nat.pow_lt_pow_right (by decide) h
  rw [h1]
  generalize 2 ^ i = q at h2
  exact wraps_i64 _ (by omega) (by omega)
theorem or_nat (a b : Nat) (ha : a < 2 ^ 62) (hb : b < 2 ^ 62) : Go.bits .or .i64 (a : Int) (b : Int) = ((a ||| b : Nat) : Int) :=
  (bits_nat .i64 63 (by decide) wraps_i64 a b (by omega) (by omega)).2
end Go.Proofs.Ytnlhhbnoccobmaa.Pure
