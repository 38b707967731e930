/- Chapter 16: what its functions come to (TrA): Good of both. -/
import Derived.Test.YtbppemcdphgknaaACx
set_option linter.unusedVariables false
set_option linter.unusedSimpArgs false
namespace Go.Proofs.Ytbppemcdphgknaa.T
open Go Go.Vm
set_option maxRecDepth 100000
set_option maxHeartbeats 4000000
set_option linter.unusedSimpArgs false
set_option linter.unusedVariables false
abbrev i64V (n : Int) : V := .int .i64 n
abbrev u32V (n : Int) : V := .int .u32 n
structure Blk where
  n : Int
  k0 : Int
  k1 : Int
  k2 : Int
  k3 : Int
  k4 : Int
  k5 : Int
  v0 : Int
  v1 : Int
  v2 : Int
  v3 : Int
  v4 : Int
  v5 : Int
abbrev bc (b : Blk) : List V := [i64V b.n, u32V b.k0, u32V b.k1, u32V b.k2, u32V b.k3, u32V b.k4, u32V b.k5, i64V b.v0, i64V b.v1, i64V b.v2, i64V b.v3, i64V b.v4, i64V b.v5]
abbrev bV (b : Blk) : V := .agg (bc b)
abbrev GoodP (b : Blk) : Prop := 0 ≤ b.n ∧ b.n ≤ 6 ∧ (1 < b.n → b.k0 < b.k1) ∧ (2 < b.n → b.k1 < b.k2) ∧ (3 < b.n → b.k2 < b.k3) ∧ (4 < b.n → b.k3 < b.k4) ∧ (5 < b.n → b.k4 < b.k5) ∧ (b.n ≤ 0 → b.k0 = 0 ∧ b.v0 = 0) ∧ (b.n ≤ 1 → b.k1 = 0 ∧ b.v1 = 0) ∧ (b.n ≤ 2 → b.k2 = 0 ∧ b.v2 = 0) ∧ (b.n ≤ 3 → b.k3 = 0 ∧ b.v3 = 0) ∧ (b.n ≤ 4 → b.k4 = 0 ∧ b.v4 = 0) ∧ (b.n ≤ 5 → b.k5 = 0 ∧ b.v5 = 0)
def goodB (b : Blk) : Bool := decide (0 ≤ b.n ∧ b.n ≤ 6 ∧ (1 < b.n → b.k0 < b.k1) ∧ (2 < b.n → b.k1 < b.k2) ∧ (3 < b.n → b.k2 < b.k3) ∧ (4 < b.n → b.k3 < b.k4) ∧ (5 < b.n → b.k4 < b.k5) ∧ (b.n ≤ 0 → b.k0 = 0 ∧ b.v0 = 0) ∧ (b.n ≤ 1 → b.k1 = 0 ∧ b.v1 = 0) ∧ (b.n ≤ 2 → b.k2 = 0 ∧ b.v2 = 0) ∧ (b.n ≤ 3 → b.k3 = 0 ∧ b.v3 = 0) ∧ (b.n ≤ 4 → b.k4 = 0 ∧ b.v4 = 0) ∧ (b.n ≤ 5 → b.k5 = 0 ∧ b.v5 = 0))
theorem goodB_iff (b : Blk) : goodB b = true ↔ GoodP b := by simp only [goodB, decide_eq_true_eq]
theorem wrapI64 {n : Int} (h : -9223372036854775808 ≤ n) (h' : n ≤ 9223372036854775807) : IntKind.i64.wrap n = n := wrap64 h h'
theorem good_t (b : Blk) (h : GoodP b) : V.bool true = V.bool (goodB b) := by rw [(goodB_iff b).2 h]
theorem good_f (b : Blk) (h : ¬ GoodP b) : V.bool false = V.bool (goodB b) := by
  cases e : goodB b
  · rfl
  · exact absurd ((goodB_iff b).1 e) h
theorem good_ok (b : Blk) : PTriple Try.prog gv 60 [bV b] (.bool (goodB b)) := by
  obtain ⟨n, k0, k1, k2, k3, k4, k5, v0, v1, v2, v3, v4, v5⟩ := b
  have hn : n < 0 ∨ 6 < n ∨ n = 0 ∨ n = 1 ∨ n = 2 ∨ n = 3 ∨ n = 4 ∨ n = 5 ∨ n = 6 := by omega
  rcases hn with hn | hn | rfl | rfl | rfl | rfl | rfl | rfl | rfl
  all_goals refine PTriple.of_body (C := cx) Try.func60 rfl (by kernel_rfl) mixed fun E hE => ?_
  all_goals
    repeat' (conv => whnf); first
     | (refine bcase_of (fun hr => ?_) (fun hr => ?_) <;> (try simp at hr) <;> try omega)
     | (apply And.intro; · first | exact Nat.le_of_ble_eq_true rfl | decide | (show indep _ _ = true; kernel_rfl))
     | (apply Exists.intro; apply And.intro; · first | exact rfl)
     | refine VLoop.unroll hE mixed ?_
     | fail
  all_goals (conv => whnf)
  all_goals (first | exact good_t _ (by dsimp only [GoodP]; omega) | exact good_f _ (by dsimp only [GoodP]; omega))
end Go.Proofs.Ytbppemcdphgknaa.T
