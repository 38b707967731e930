/- Chapter 1: plain laws on numbers of 64 and 128 bits. -/
import Derived.Test.YtccnfkblkihgjaaCalCx
set_option linter.unusedVariables false
set_option linter.unusedSimpArgs false
namespace Go.Proofs.Ytccnfkblkihgjaa
open Go Go.Vm

abbrev i64V (n : Int) : V := .int .i64 n
abbrev u64V (n : Int) : V := .int .u64 n

theorem wrapU (x : Int) : IntKind.u64.wrap x = x % 18446744073709551616 := by
  have e1 : (2 : Int) ^ IntKind.u64.bits = 18446744073709551616 := rfl
  have e3 : IntKind.u64.signed = false := rfl
  simp [IntKind.wrap, e1, e3]
theorem wrapI (x : Int) : IntKind.i64.wrap x = if x % 18446744073709551616 ≥ 9223372036854775808 then x % 18446744073709551616 - 18446744073709551616 else x % 18446744073709551616 := by
  have e1 : (2 : Int) ^ IntKind.i64.bits = 18446744073709551616 := rfl
  have e2 : (2 : Int) ^ (IntKind.i64.bits - 1) = 9223372036854775808 := rfl
  have e3 : IntKind.i64.signed = true := rfl
  simp only [IntKind.wrap, e1, e2, e3, Bool.true_and, decide_eq_true_eq]
theorem and32 (x : Int) (h0 : 0 ≤ x) (h1 : x < 18446744073709551616) : IntKind.u64.wrap ((BitVec.ofInt IntKind.u64.bits x &&& BitVec.ofInt IntKind.u64.bits 4294967295).toNat) = x % 4294967296 := by
  obtain ⟨n, rfl⟩ := Int.eq_ofNat_of_zero_le h0
  have e1 : (BitVec.ofInt IntKind.u64.bits (n : Int)).toNat = n := by
    rw [BitVec.toNat_ofInt]
    show ((n : Int) % (2 ^ 64 : Nat)).toNat = n
    omega
  have e2 : (BitVec.ofInt IntKind.u64.bits 4294967295).toNat = 2 ^ 32 - 1 := by rfl
  rw [BitVec.toNat_and, e1, e2, Nat.and_two_pow_sub_one_eq_mod, wrapU]
  omega
theorem shr32 (x : Int) : x.fdiv (2 ^ min (32 : Int).toNat IntKind.u64.bits) = x / 4294967296 := by
  have : (2 : Int) ^ min (32 : Int).toNat IntKind.u64.bits = 4294967296 := rfl
  rw [this, Int.fdiv_eq_ediv_of_nonneg _ (by decide)]
theorem shl32 (x : Int) : IntKind.u64.wrap (x * 2 ^ min (32 : Int).toNat IntKind.u64.bits) = x * 4294967296 % 18446744073709551616 := by
  have : (2 : Int) ^ min (32 : Int).toNat IntKind.u64.bits = 4294967296 := rfl
  rw [this, wrapU]
theorem or32 (x y : Int) (h0 : 0 ≤ x) (h1 : x < 18446744073709551616) (hx : x % 4294967296 = 0) (h2 : 0 ≤ y) (h3 : y < 4294967296) :
    IntKind.u64.wrap ((BitVec.ofInt IntKind.u64.bits x ||| BitVec.ofInt IntKind.u64.bits y).toNat) = x + y := by
  obtain ⟨n, rfl⟩ := Int.eq_ofNat_of_zero_le h0
  obtain ⟨m, rfl⟩ := Int.eq_ofNat_of_zero_le h2
  have e1 : ∀ k : Nat, k < 18446744073709551616 → (BitVec.ofInt IntKind.u64.bits (k : Int)).toNat = k := fun k hk => by
    rw [BitVec.toNat_ofInt]
    show ((k : Int) % (2 ^ 64 : Nat)).toNat = k
    omega
  rw [BitVec.toNat_or, e1 n (by omega), e1 m (by omega), wrapU]
  have hn : n = n / 4294967296 * 2 ^ 32 := by omega
  have : n ||| m = n + m := by
    rw [hn, ← Nat.shiftLeft_eq, Nat.shiftLeft_add_eq_or_of_lt (by omega)]
  rw [this]
  omega
theorem and32' (x : Int) (h0 : 0 ≤ x) (h1 : x < 18446744073709551616) : (((BitVec.ofInt IntKind.u64.bits x &&& BitVec.ofInt IntKind.u64.bits 4294967295).toNat : Nat) : Int) % 18446744073709551616 = x % 4294967296 := by
  rw [← wrapU]; exact and32 x h0 h1
theorem or32' (x y : Int) (h0 : 0 ≤ x) (h1 : x < 18446744073709551616) (hx : x % 4294967296 = 0) (h2 : 0 ≤ y) (h3 : y < 4294967296) :
    (((BitVec.ofInt IntKind.u64.bits x ||| BitVec.ofInt IntKind.u64.bits y).toNat : Nat) : Int) % 18446744073709551616 = x + y := by
  rw [← wrapU]; exact or32 x y h0 h1 hx h2 h3
theorem mul_bnd {a b : Int} (h0 : 0 ≤ a) (h1 : a < 4294967296) (h2 : 0 ≤ b) (h3 : b < 4294967296) : 0 ≤ a * b ∧ a * b ≤ 18446744065119617025 := by
  refine ⟨Int.mul_nonneg h0 h2, ?_⟩
  have := Int.mul_le_mul (show a ≤ 4294967295 by omega) (show b ≤ 4294967295 by omega) h2 (by decide)
  omega
theorem mul_parts (x y : Int) : x * y = (x / 4294967296 * (y / 4294967296)) * 18446744073709551616 + (x / 4294967296 * (y % 4294967296) + x % 4294967296 * (y / 4294967296)) * 4294967296 + x % 4294967296 * (y % 4294967296) := by
  conv => lhs; rw [← Int.mul_ediv_add_emod x 4294967296, ← Int.mul_ediv_add_emod y 4294967296]
  generalize x / 4294967296 = a; generalize x % 4294967296 = b; generalize y / 4294967296 = c; generalize y % 4294967296 = d
  have e1 : (4294967296 * a + b) * (4294967296 * c + d) = 4294967296 * (4294967296 * (a * c)) + 4294967296 * (a * d) + (4294967296 * (b * c) + b * d) := by
    rw [Int.add_mul, Int.mul_add, Int.mul_add]
    congr 1
    · congr 1
      · rw [Int.mul_assoc, Int.mul_left_comm a]
      · rw [Int.mul_assoc]
    · congr 1
      rw [Int.mul_left_comm]
  rw [e1]
  omega
/-- The sign of a difference. -/
def cmpI (a b : Int) : Int := if a < b then -1 else if b < a then 1 else 0
/-- As an int64, if it is one. -/
def fit (n : Int) : Int × Bool := if -9223372036854775808 ≤ n ∧ n < 9223372036854775808 then (n, true) else (0, false)
/-- By two's complement. -/
def wide (n : Int) : V := .agg [.int .i64 (IntKind.i64.wrap (n / 18446744073709551616)), .int .u64 (n % 18446744073709551616)]
/-- By sign and size. -/
def smag (n : Int) : V := .agg [.bool (decide (n < 0)), .int .u64 ((n.natAbs : Int) / 18446744073709551616), .int .u64 ((n.natAbs : Int) % 18446744073709551616)]
abbrev pairV (p : Int × Bool) : V := .tup [.int .i64 p.1, .bool p.2]
def in64 (n : Int) : Prop := -9223372036854775808 ≤ n ∧ n < 9223372036854775808
theorem abs_in {n : Int} (h : in64 n) : 0 ≤ (n.natAbs : Int) ∧ (n.natAbs : Int) < 18446744073709551616 := by unfold in64 at h; omega
end Go.Proofs.Ytccnfkblkihgjaa
