/- G1: merged. -/
import Derived.Test.YtbppemcdphgknaaDoorDCx
set_option linter.unusedVariables false
set_option linter.unusedSimpArgs false
/- Chapter 13: tags, as in chapter 12. -/
namespace Go.Proofs.YtbppemcdphgknaaDoor
open Go Go.Vm
set_option maxRecDepth 100000
set_option maxHeartbeats 40000000
set_option linter.unusedSimpArgs false
set_option linter.unusedVariables false

def known (n : Int) : Bool := decide (n = 1 ∨ n = 2 ∨ n = 3)
def was (n : Int) : Bool := decide (n = 2 ∨ n = 3)
def is (n : Int) : Bool := decide (n = 1 ∨ n = 2)
def rowOp (n : Int) : Int := if n = 1 ∨ n = 2 ∨ n = 3 then n else 0
def ofV (w i : Bool) : Int := match w, i with
  | false, false => 0
  | false, true => 1
  | true, true => 2
  | true, false => 3
def thenV (a b : Int) : Int × Bool :=
  if (a ≠ 0 ∧ known a = false) ∨ (b ≠ 0 ∧ known b = false) then (0, false)
  else if a = 0 then (b, true)
  else if b = 0 then (a, true)
  else if is a = was b then (ofV (was a) (is b), true)
  else (0, false)
abbrev int1 (n : Int) : V := .int .i64 n
abbrev pair (x : Int × Bool) : V := .tup [.int .i64 x.1, .bool x.2]
abbrev pairA (x : Int × Bool) : V := .agg [.int .i64 x.1, .bool x.2]

theorem ok76 (n : Int) : PTriple Tryd.prog gv 76 [int1 n] (.tup [.agg [.int .i64 (rowOp n), .bool (was n), .bool (is n)], .bool (known n)]) := by
  refine PTriple.of_body (C := cx) Tryd.func76 rfl (by kernel_rfl) mixed fun E hE => ?_
  repeat' (conv => whnf); first
   | refine ⟨_, rfl, ?_⟩
   | refine ⟨by first | decide | exact Nat.le_of_ble_eq_true rfl | omega, ?_⟩
   | refine VLoop.unroll hE mixed ?_
   | (refine bcase_of (fun h => ?_) (fun h => ?_) <;> have hr := h <;> (try simp only [known, was, is, beq_iff_eq, beq_eq_false_iff_ne, bne_iff_ne, bne_eq_false_iff_eq, decide_eq_true_eq, decide_eq_false_iff_not, ne_eq] at h) <;> try (exfalso; first | omega | contradiction))
  all_goals (conv => whnf)
  all_goals (try simp only [retOf, pair, pairA, V.tup.injEq, V.agg.injEq, List.cons.injEq, V.int.injEq, V.bool.injEq, true_and, and_true])
  all_goals first
   | rfl
   | omega
   | ((repeat' apply And.intro) <;> first | rfl | omega | (simp only [rowOp]; split <;> omega) | (simp [known, was, is]; done) | (simp [known, was, is]; omega))
theorem ok41 (n : Int) : PTriple Tryd.prog gv 41 [int1 n] (.bool (known n)) := by
  refine PTriple.of_body (C := cx) Tryd.func41 rfl (by kernel_rfl) mixed fun E hE => ?_
  repeat' (conv => whnf); first
   | refine ⟨_, rfl, ?_⟩
   | refine ⟨by first | decide | exact Nat.le_of_ble_eq_true rfl | omega, ?_⟩
   | refine ⟨_, ok76 _, ?_⟩
   | refine VLoop.unroll hE mixed ?_
   | (refine bcase_of (fun h => ?_) (fun h => ?_) <;> have hr := h <;> (try simp only [known, was, is, beq_iff_eq, beq_eq_false_iff_ne, bne_iff_ne, bne_eq_false_iff_eq, decide_eq_true_eq, decide_eq_false_iff_not, ne_eq] at h) <;> try (exfalso; first | omega | contradiction))
  all_goals (conv => whnf)
  all_goals (try simp only [retOf, pair, pairA, V.tup.injEq, V.agg.injEq, List.cons.injEq, V.int.injEq, V.bool.injEq, true_and, and_true])
  all_goals first
   | rfl
   | omega
   | ((repeat' apply And.intro) <;> first | rfl | omega | (simp only [rowOp]; split <;> omega) | (simp [known, was, is]; done) | (simp [known, was, is]; omega))
theorem ok44 (n : Int) : PTriple Tryd.prog gv 44 [int1 n] (.bool (was n)) := by
  refine PTriple.of_body (C := cx) Tryd.func44 rfl (by kernel_rfl) mixed fun E hE => ?_
  repeat' (conv => whnf); first
   | refine ⟨_, rfl, ?_⟩
   | refine ⟨by first | decide | exact Nat.le_of_ble_eq_true rfl | omega, ?_⟩
   | refine ⟨_, ok76 _, ?_⟩
   | refine VLoop.unroll hE mixed ?_
   | (refine bcase_of (fun h => ?_) (fun h => ?_) <;> have hr := h <;> (try simp only [known, was, is, beq_iff_eq, beq_eq_false_iff_ne, bne_iff_ne, bne_eq_false_iff_eq, decide_eq_true_eq, decide_eq_false_iff_not, ne_eq] at h) <;> try (exfalso; first | omega | contradiction))
  all_goals (conv => whnf)
  all_goals (try simp only [retOf, pair, pairA, V.tup.injEq, V.agg.injEq, List.cons.injEq, V.int.injEq, V.bool.injEq, true_and, and_true])
  all_goals first
   | rfl
   | omega
   | ((repeat' apply And.intro) <;> first | rfl | omega | (simp only [rowOp]; split <;> omega) | (simp [known, was, is]; done) | (simp [known, was, is]; omega))
theorem ok43 (n : Int) : PTriple Tryd.prog gv 43 [int1 n] (.bool (is n)) := by
  refine PTriple.of_body (C := cx) Tryd.func43 rfl (by kernel_rfl) mixed fun E hE => ?_
  repeat' (conv => whnf); first
   | refine ⟨_, rfl, ?_⟩
   | refine ⟨by first | decide | exact Nat.le_of_ble_eq_true rfl | omega, ?_⟩
   | refine ⟨_, ok76 _, ?_⟩
   | refine VLoop.unroll hE mixed ?_
   | (refine bcase_of (fun h => ?_) (fun h => ?_) <;> have hr := h <;> (try simp only [known, was, is, beq_iff_eq, beq_eq_false_iff_ne, bne_iff_ne, bne_eq_false_iff_eq, decide_eq_true_eq, decide_eq_false_iff_not, ne_eq] at h) <;> try (exfalso; first | omega | contradiction))
  all_goals (conv => whnf)
  all_goals (try simp only [retOf, pair, pairA, V.tup.injEq, V.agg.injEq, List.cons.injEq, V.int.injEq, V.bool.injEq, true_and, and_true])
  all_goals first
   | rfl
   | omega
   | ((repeat' apply And.intro) <;> first | rfl | omega | (simp only [rowOp]; split <;> omega) | (simp [known, was, is]; done) | (simp [known, was, is]; omega))
theorem ok78ff : PTriple Tryd.prog gv 78 [.bool false, .bool false] (.int .i64 (ofV false false)) := by
  refine PTriple.of_body (C := cx) Tryd.func78 rfl (by kernel_rfl) mixed fun E hE => ?_
  repeat' (conv => whnf); first
   | refine ⟨_, rfl, ?_⟩
   | refine ⟨by first | decide | exact Nat.le_of_ble_eq_true rfl | omega, ?_⟩
   | refine VLoop.unroll hE mixed ?_
   | (refine bcase_of (fun h => ?_) (fun h => ?_) <;> have hr := h <;> (try simp only [known, was, is, beq_iff_eq, beq_eq_false_iff_ne, bne_iff_ne, bne_eq_false_iff_eq, decide_eq_true_eq, decide_eq_false_iff_not, ne_eq] at h) <;> try (exfalso; first | omega | contradiction))
  all_goals (conv => whnf)
  all_goals (try simp only [retOf, pair, pairA, V.tup.injEq, V.agg.injEq, List.cons.injEq, V.int.injEq, V.bool.injEq, true_and, and_true])
  all_goals first
   | rfl
   | omega
   | ((repeat' apply And.intro) <;> first | rfl | omega | (simp only [rowOp]; split <;> omega) | (simp [known, was, is]; done) | (simp [known, was, is]; omega))
theorem ok78ft : PTriple Tryd.prog gv 78 [.bool false, .bool true] (.int .i64 (ofV false true)) := by
  refine PTriple.of_body (C := cx) Tryd.func78 rfl (by kernel_rfl) mixed fun E hE => ?_
  repeat' (conv => whnf); first
   | refine ⟨_, rfl, ?_⟩
   | refine ⟨by first | decide | exact Nat.le_of_ble_eq_true rfl | omega, ?_⟩
   | refine VLoop.unroll hE mixed ?_
   | (refine bcase_of (fun h => ?_) (fun h => ?_) <;> have hr := h <;> (try simp only [known, was, is, beq_iff_eq, beq_eq_false_iff_ne, bne_iff_ne, bne_eq_false_iff_eq, decide_eq_true_eq, decide_eq_false_iff_not, ne_eq] at h) <;> try (exfalso; first | omega | contradiction))
  all_goals (conv => whnf)
  all_goals (try simp only [retOf, pair, pairA, V.tup.injEq, V.agg.injEq, List.cons.injEq, V.int.injEq, V.bool.injEq, true_and, and_true])
  all_goals first
   | rfl
   | omega
   | ((repeat' apply And.intro) <;> first | rfl | omega | (simp only [rowOp]; split <;> omega) | (simp [known, was, is]; done) | (simp [known, was, is]; omega))
theorem ok78tf : PTriple Tryd.prog gv 78 [.bool true, .bool false] (.int .i64 (ofV true false)) := by
  refine PTriple.of_body (C := cx) Tryd.func78 rfl (by kernel_rfl) mixed fun E hE => ?_
  repeat' (conv => whnf); first
   | refine ⟨_, rfl, ?_⟩
   | refine ⟨by first | decide | exact Nat.le_of_ble_eq_true rfl | omega, ?_⟩
   | refine VLoop.unroll hE mixed ?_
   | (refine bcase_of (fun h => ?_) (fun h => ?_) <;> have hr := h <;> (try simp only [known, was, is, beq_iff_eq, beq_eq_false_iff_ne, bne_iff_ne, bne_eq_false_iff_eq, decide_eq_true_eq, decide_eq_false_iff_not, ne_eq] at h) <;> try (exfalso; first | omega | contradiction))
  all_goals (conv => whnf)
  all_goals (try simp only [retOf, pair, pairA, V.tup.injEq, V.agg.injEq, List.cons.injEq, V.int.injEq, V.bool.injEq, true_and, and_true])
  all_goals first
   | rfl
   | omega
   | ((repeat' apply And.intro) <;> first | rfl | omega | (simp only [rowOp]; split <;> omega) | (simp [known, was, is]; done) | (simp [known, was, is]; omega))
theorem ok78tt : PTriple Tryd.prog gv 78 [.bool true, .bool true] (.int .i64 (ofV true true)) := by
  refine PTriple.of_body (C := cx) Tryd.func78 rfl (by kernel_rfl) mixed fun E hE => ?_
  repeat' (conv => whnf); first
   | refine ⟨_, rfl, ?_⟩
   | refine ⟨by first | decide | exact Nat.le_of_ble_eq_true rfl | omega, ?_⟩
   | refine VLoop.unroll hE mixed ?_
   | (refine bcase_of (fun h => ?_) (fun h => ?_) <;> have hr := h <;> (try simp only [known, was, is, beq_iff_eq, beq_eq_false_iff_ne, bne_iff_ne, bne_eq_false_iff_eq, decide_eq_true_eq, decide_eq_false_iff_not, ne_eq] at h) <;> try (exfalso; first | omega | contradiction))
  all_goals (conv => whnf)
  all_goals (try simp only [retOf, pair, pairA, V.tup.injEq, V.agg.injEq, List.cons.injEq, V.int.injEq, V.bool.injEq, true_and, and_true])
  all_goals first
   | rfl
   | omega
   | ((repeat' apply And.intro) <;> first | rfl | omega | (simp only [rowOp]; split <;> omega) | (simp [known, was, is]; done) | (simp [known, was, is]; omega))
theorem ok78 : ∀ w i : Bool, PTriple Tryd.prog gv 78 [.bool w, .bool i] (.int .i64 (ofV w i))
  | false, false => ok78ff
  | false, true => ok78ft
  | true, false => ok78tf
  | true, true => ok78tt
theorem ok45 (n : Int) : PTriple Tryd.prog gv 45 [int1 n] (.bool (known n)) := by
  refine PTriple.of_body (C := cx) Tryd.func45 rfl (by kernel_rfl) mixed fun E hE => ?_
  repeat' (conv => whnf); first
   | refine ⟨_, rfl, ?_⟩
   | refine ⟨by first | decide | exact Nat.le_of_ble_eq_true rfl | omega, ?_⟩
   | refine VLoop.unroll hE mixed ?_
   | (refine bcase_of (fun h => ?_) (fun h => ?_) <;> have hr := h <;> (try simp only [known, was, is, beq_iff_eq, beq_eq_false_iff_ne, bne_iff_ne, bne_eq_false_iff_eq, decide_eq_true_eq, decide_eq_false_iff_not, ne_eq] at h) <;> try (exfalso; first | omega | contradiction))
  all_goals (conv => whnf)
  all_goals (try simp only [retOf, pair, pairA, V.tup.injEq, V.agg.injEq, List.cons.injEq, V.int.injEq, V.bool.injEq, true_and, and_true])
  all_goals first
   | rfl
   | omega
   | ((repeat' apply And.intro) <;> first | rfl | omega | (simp only [rowOp]; split <;> omega) | (simp [known, was, is]; done) | (simp [known, was, is]; omega))
theorem ok48 (n : Int) : PTriple Tryd.prog gv 48 [int1 n] (.bool (was n)) := by
  refine PTriple.of_body (C := cx) Tryd.func48 rfl (by kernel_rfl) mixed fun E hE => ?_
  repeat' (conv => whnf); first
   | refine ⟨_, rfl, ?_⟩
   | refine ⟨by first | decide | exact Nat.le_of_ble_eq_true rfl | omega, ?_⟩
   | refine VLoop.unroll hE mixed ?_
   | (refine bcase_of (fun h => ?_) (fun h => ?_) <;> have hr := h <;> (try simp only [known, was, is, beq_iff_eq, beq_eq_false_iff_ne, bne_iff_ne, bne_eq_false_iff_eq, decide_eq_true_eq, decide_eq_false_iff_not, ne_eq] at h) <;> try (exfalso; first | omega | contradiction))
  all_goals (conv => whnf)
  all_goals (try simp only [retOf, pair, pairA, V.tup.injEq, V.agg.injEq, List.cons.injEq, V.int.injEq, V.bool.injEq, true_and, and_true])
  all_goals first
   | rfl
   | omega
   | ((repeat' apply And.intro) <;> first | rfl | omega | (simp only [rowOp]; split <;> omega) | (simp [known, was, is]; done) | (simp [known, was, is]; omega))
theorem ok46 (n : Int) : PTriple Tryd.prog gv 46 [int1 n] (.bool (is n)) := by
  refine PTriple.of_body (C := cx) Tryd.func46 rfl (by kernel_rfl) mixed fun E hE => ?_
  repeat' (conv => whnf); first
   | refine ⟨_, rfl, ?_⟩
   | refine ⟨by first | decide | exact Nat.le_of_ble_eq_true rfl | omega, ?_⟩
   | refine VLoop.unroll hE mixed ?_
   | (refine bcase_of (fun h => ?_) (fun h => ?_) <;> have hr := h <;> (try simp only [known, was, is, beq_iff_eq, beq_eq_false_iff_ne, bne_iff_ne, bne_eq_false_iff_eq, decide_eq_true_eq, decide_eq_false_iff_not, ne_eq] at h) <;> try (exfalso; first | omega | contradiction))
  all_goals (conv => whnf)
  all_goals (try simp only [retOf, pair, pairA, V.tup.injEq, V.agg.injEq, List.cons.injEq, V.int.injEq, V.bool.injEq, true_and, and_true])
  all_goals first
   | rfl
   | omega
   | ((repeat' apply And.intro) <;> first | rfl | omega | (simp only [rowOp]; split <;> omega) | (simp [known, was, is]; done) | (simp [known, was, is]; omega))
theorem ok55ff : PTriple Tryd.prog gv 55 [.bool false, .bool false] (.int .i64 (ofV false false)) := by
  refine PTriple.of_body (C := cx) Tryd.func55 rfl (by kernel_rfl) mixed fun E hE => ?_
  repeat' (conv => whnf); first
   | refine ⟨_, rfl, ?_⟩
   | refine ⟨by first | decide | exact Nat.le_of_ble_eq_true rfl | omega, ?_⟩
   | refine VLoop.unroll hE mixed ?_
   | (refine bcase_of (fun h => ?_) (fun h => ?_) <;> have hr := h <;> (try simp only [known, was, is, beq_iff_eq, beq_eq_false_iff_ne, bne_iff_ne, bne_eq_false_iff_eq, decide_eq_true_eq, decide_eq_false_iff_not, ne_eq] at h) <;> try (exfalso; first | omega | contradiction))
  all_goals (conv => whnf)
  all_goals (try simp only [retOf, pair, pairA, V.tup.injEq, V.agg.injEq, List.cons.injEq, V.int.injEq, V.bool.injEq, true_and, and_true])
  all_goals first
   | rfl
   | omega
   | ((repeat' apply And.intro) <;> first | rfl | omega | (simp only [rowOp]; split <;> omega) | (simp [known, was, is]; done) | (simp [known, was, is]; omega))
theorem ok55ft : PTriple Tryd.prog gv 55 [.bool false, .bool true] (.int .i64 (ofV false true)) := by
  refine PTriple.of_body (C := cx) Tryd.func55 rfl (by kernel_rfl) mixed fun E hE => ?_
  repeat' (conv => whnf); first
   | refine ⟨_, rfl, ?_⟩
   | refine ⟨by first | decide | exact Nat.le_of_ble_eq_true rfl | omega, ?_⟩
   | refine VLoop.unroll hE mixed ?_
   | (refine bcase_of (fun h => ?_) (fun h => ?_) <;> have hr := h <;> (try simp only [known, was, is, beq_iff_eq, beq_eq_false_iff_ne, bne_iff_ne, bne_eq_false_iff_eq, decide_eq_true_eq, decide_eq_false_iff_not, ne_eq] at h) <;> try (exfalso; first | omega | contradiction))
  all_goals (conv => whnf)
  all_goals (try simp only [retOf, pair, pairA, V.tup.injEq, V.agg.injEq, List.cons.injEq, V.int.injEq, V.bool.injEq, true_and, and_true])
  all_goals first
   | rfl
   | omega
   | ((repeat' apply And.intro) <;> first | rfl | omega | (simp only [rowOp]; split <;> omega) | (simp [known, was, is]; done) | (simp [known, was, is]; omega))
theorem ok55tf : PTriple Tryd.prog gv 55 [.bool true, .bool false] (.int .i64 (ofV true false)) := by
  refine PTriple.of_body (C := cx) Tryd.func55 rfl (by kernel_rfl) mixed fun E hE => ?_
  repeat' (conv => whnf); first
   | refine ⟨_, rfl, ?_⟩
   | refine ⟨by first | decide | exact Nat.le_of_ble_eq_true rfl | omega, ?_⟩
   | refine VLoop.unroll hE mixed ?_
   | (refine bcase_of (fun h => ?_) (fun h => ?_) <;> have hr := h <;> (try simp only [known, was, is, beq_iff_eq, beq_eq_false_iff_ne, bne_iff_ne, bne_eq_false_iff_eq, decide_eq_true_eq, decide_eq_false_iff_not, ne_eq] at h) <;> try (exfalso; first | omega | contradiction))
  all_goals (conv => whnf)
  all_goals (try simp only [retOf, pair, pairA, V.tup.injEq, V.agg.injEq, List.cons.injEq, V.int.injEq, V.bool.injEq, true_and, and_true])
  all_goals first
   | rfl
   | omega
   | ((repeat' apply And.intro) <;> first | rfl | omega | (simp only [rowOp]; split <;> omega) | (simp [known, was, is]; done) | (simp [known, was, is]; omega))
theorem ok55tt : PTriple Tryd.prog gv 55 [.bool true, .bool true] (.int .i64 (ofV true true)) := by
  refine PTriple.of_body (C := cx) Tryd.func55 rfl (by kernel_rfl) mixed fun E hE => ?_
  repeat' (conv => whnf); first
   | refine ⟨_, rfl, ?_⟩
   | refine ⟨by first | decide | exact Nat.le_of_ble_eq_true rfl | omega, ?_⟩
   | refine VLoop.unroll hE mixed ?_
   | (refine bcase_of (fun h => ?_) (fun h => ?_) <;> have hr := h <;> (try simp only [known, was, is, beq_iff_eq, beq_eq_false_iff_ne, bne_iff_ne, bne_eq_false_iff_eq, decide_eq_true_eq, decide_eq_false_iff_not, ne_eq] at h) <;> try (exfalso; first | omega | contradiction))
  all_goals (conv => whnf)
  all_goals (try simp only [retOf, pair, pairA, V.tup.injEq, V.agg.injEq, List.cons.injEq, V.int.injEq, V.bool.injEq, true_and, and_true])
  all_goals first
   | rfl
   | omega
   | ((repeat' apply And.intro) <;> first | rfl | omega | (simp only [rowOp]; split <;> omega) | (simp [known, was, is]; done) | (simp [known, was, is]; omega))
theorem ok55 : ∀ w i : Bool, PTriple Tryd.prog gv 55 [.bool w, .bool i] (.int .i64 (ofV w i))
  | false, false => ok55ff
  | false, true => ok55ft
  | true, false => ok55tf
  | true, true => ok55tt
theorem ok79 (a b : Int) : PTriple Tryd.prog gv 79 [int1 a, int1 b] (pair (thenV a b)) := by
  refine PTriple.of_body (C := cx) Tryd.func79 rfl (by kernel_rfl) mixed fun E hE => ?_
  repeat' (conv => whnf); first
   | refine ⟨_, rfl, ?_⟩
   | refine ⟨by first | decide | exact Nat.le_of_ble_eq_true rfl | omega, ?_⟩
   | refine ⟨_, ok41 _, ?_⟩
   | refine ⟨_, ok44 _, ?_⟩
   | refine ⟨_, ok43 _, ?_⟩
   | refine ⟨_, ok78 _ _, ?_⟩
   | refine VLoop.unroll hE mixed ?_
   | (refine bcase_of (fun h => ?_) (fun h => ?_) <;> have hr := h <;> (try simp only [known, was, is, beq_iff_eq, beq_eq_false_iff_ne, bne_iff_ne, bne_eq_false_iff_eq, decide_eq_true_eq, decide_eq_false_iff_not, ne_eq] at h) <;> try (exfalso; first | omega | contradiction))
  all_goals (conv => whnf)
  all_goals (try simp only [retOf, pair, pairA, V.tup.injEq, V.agg.injEq, List.cons.injEq, V.int.injEq, V.bool.injEq, true_and, and_true])
  all_goals (simp only [thenV, known, was, is, ne_eq, decide_eq_false_iff_not, decide_eq_decide])
  all_goals ((repeat' split) <;> first | omega | (refine ⟨?_, ?_⟩ <;> first | rfl | omega) | (simp_all [ofV]; done))
theorem ok56 (a b : Int) : PTriple Tryd.prog gv 56 [int1 a, int1 b] (pairA (thenV a b)) := by
  refine PTriple.of_body (C := cx) Tryd.func56 rfl (by kernel_rfl) mixed fun E hE => ?_
  repeat' (conv => whnf); first
   | refine ⟨_, rfl, ?_⟩
   | refine ⟨by first | decide | exact Nat.le_of_ble_eq_true rfl | omega, ?_⟩
   | refine ⟨_, ok45 _, ?_⟩
   | refine ⟨_, ok48 _, ?_⟩
   | refine ⟨_, ok46 _, ?_⟩
   | refine ⟨_, ok55 _ _, ?_⟩
   | refine VLoop.unroll hE mixed ?_
   | (refine bcase_of (fun h => ?_) (fun h => ?_) <;> have hr := h <;> (try simp only [known, was, is, beq_iff_eq, beq_eq_false_iff_ne, bne_iff_ne, bne_eq_false_iff_eq, decide_eq_true_eq, decide_eq_false_iff_not, ne_eq] at h) <;> try (exfalso; first | omega | contradiction))
  all_goals (conv => whnf)
  all_goals (try simp only [retOf, pair, pairA, V.tup.injEq, V.agg.injEq, List.cons.injEq, V.int.injEq, V.bool.injEq, true_and, and_true])
  all_goals (simp only [thenV, known, was, is, ne_eq, decide_eq_false_iff_not, decide_eq_decide])
  all_goals ((repeat' split) <;> first | omega | (refine ⟨?_, ?_⟩ <;> first | rfl | omega) | (simp_all [ofV]; done))

end Go.Proofs.YtbppemcdphgknaaDoor
/- Chapter 13: wide sums, as in chapter 1. -/
namespace Go.Proofs.YtbppemcdphgknaaDoor
open Go Go.Vm
set_option maxRecDepth 100000
set_option maxHeartbeats 40000000
set_option linter.unusedSimpArgs false
set_option linter.unusedVariables false

abbrev i64V (n : Int) : V := .int .i64 n
abbrev u64V (n : Int) : V := .int .u64 n

theorem wrapU (x : Int) : IntKind.u64.wrap x = x % 18446744073709551616 := by
  have e1 : (2 : Int) ^ IntKind.u64.bits = 18446744073709551616 := rfl
  have e3 : IntKind.u64.signed = false := rfl
  simp [IntKind.wrap, e1, e3]
theorem wrapI (x : Int) : IntKind.i64.wrap x = if x % 18446744073709551616 ≥ 9223372036854775808 then x % 18446744073709551616 - 18446744073709551616 else x % 18446744073709551616 := by
  have e1 : (2 : Int) ^ IntKind.i64.bits = 18446744073709551616 := rfl
  have e2 : (2 : Int) ^ (IntKind.i64.bits - 1) = 9223372036854775808 := rfl
  have e3 : IntKind.i64.signed = true := rfl
  simp only [IntKind.wrap, e1, e2, e3, Bool.true_and, decide_eq_true_eq]
theorem and32 (x : Int) (h0 : 0 ≤ x) (h1 : x < 18446744073709551616) : IntKind.u64.wrap ((BitVec.ofInt IntKind.u64.bits x &&& BitVec.ofInt IntKind.u64.bits 4294967295).toNat) = x % 4294967296 := by
  obtain ⟨n, rfl⟩ := Int.eq_ofNat_of_zero_le h0
  have e1 : (BitVec.ofInt IntKind.u64.bits (n : Int)).toNat = n := by
    rw [BitVec.toNat_ofInt]
    show ((n : Int) % (2 ^ 64 : Nat)).toNat = n
    omega
  have e2 : (BitVec.ofInt IntKind.u64.bits 4294967295).toNat = 2 ^ 32 - 1 := by rfl
  rw [BitVec.toNat_and, e1, e2, Nat.and_two_pow_sub_one_eq_mod, wrapU]
  omega
theorem shr32 (x : Int) : x.fdiv (2 ^ min (32 : Int).toNat IntKind.u64.bits) = x / 4294967296 := by
  have : (2 : Int) ^ min (32 : Int).toNat IntKind.u64.bits = 4294967296 := rfl
  rw [this, Int.fdiv_eq_ediv_of_nonneg _ (by decide)]
theorem shl32 (x : Int) : IntKind.u64.wrap (x * 2 ^ min (32 : Int).toNat IntKind.u64.bits) = x * 4294967296 % 18446744073709551616 := by
  have : (2 : Int) ^ min (32 : Int).toNat IntKind.u64.bits = 4294967296 := rfl
  rw [this, wrapU]
theorem or32 (x y : Int) (h0 : 0 ≤ x) (h1 : x < 18446744073709551616) (hx : x % 4294967296 = 0) (h2 : 0 ≤ y) (h3 : y < 4294967296) :
    IntKind.u64.wrap ((BitVec.ofInt IntKind.u64.bits x ||| BitVec.ofInt IntKind.u64.bits y).toNat) = x + y := by
  obtain ⟨n, rfl⟩ := Int.eq_ofNat_of_zero_le h0
  obtain ⟨m, rfl⟩ := Int.eq_ofNat_of_zero_le h2
  have e1 : ∀ k : Nat, k < 18446744073709551616 → (BitVec.ofInt IntKind.u64.bits (k : Int)).toNat = k := fun k hk => by
    rw [BitVec.toNat_ofInt]
    show ((k : Int) % (2 ^ 64 : Nat)).toNat = k
    omega
  rw [BitVec.toNat_or, e1 n (by omega), e1 m (by omega), wrapU]
  have hn : n = n / 4294967296 * 2 ^ 32 := by omega
  have : n ||| m = n + m := by
    rw [hn, ← Nat.shiftLeft_eq, Nat.shiftLeft_add_eq_or_of_lt (by omega)]
  rw [this]
  omega
theorem and32' (x : Int) (h0 : 0 ≤ x) (h1 : x < 18446744073709551616) : (((BitVec.ofInt IntKind.u64.bits x &&& BitVec.ofInt IntKind.u64.bits 4294967295).toNat : Nat) : Int) % 18446744073709551616 = x % 4294967296 := by
  rw [← wrapU]; exact and32 x h0 h1
theorem or32' (x y : Int) (h0 : 0 ≤ x) (h1 : x < 18446744073709551616) (hx : x % 4294967296 = 0) (h2 : 0 ≤ y) (h3 : y < 4294967296) :
    (((BitVec.ofInt IntKind.u64.bits x ||| BitVec.ofInt IntKind.u64.bits y).toNat : Nat) : Int) % 18446744073709551616 = x + y := by
  rw [← wrapU]; exact or32 x y h0 h1 hx h2 h3
theorem mul_bnd {a b : Int} (h0 : 0 ≤ a) (h1 : a < 4294967296) (h2 : 0 ≤ b) (h3 : b < 4294967296) : 0 ≤ a * b ∧ a * b ≤ 18446744065119617025 := by
  refine ⟨Int.mul_nonneg h0 h2, ?_⟩
  have := Int.mul_le_mul (show a ≤ 4294967295 by omega) (show b ≤ 4294967295 by omega) h2 (by decide)
  omega
theorem mul_parts (x y : Int) : x * y = (x / 4294967296 * (y / 4294967296)) * 18446744073709551616 + (x / 4294967296 * (y % 4294967296) + x % 4294967296 * (y / 4294967296)) * 4294967296 + x % 4294967296 * (y % 4294967296) := by
  conv => lhs; rw [← Int.mul_ediv_add_emod x 4294967296, ← Int.mul_ediv_add_emod y 4294967296]
  generalize x / 4294967296 = a; generalize x % 4294967296 = b; generalize y / 4294967296 = c; generalize y % 4294967296 = d
  have e1 : (4294967296 * a + b) * (4294967296 * c + d) = 4294967296 * (4294967296 * (a * c)) + 4294967296 * (a * d) + (4294967296 * (b * c) + b * d) := by
    rw [Int.add_mul, Int.mul_add, Int.mul_add]
    congr 1
    · congr 1
      · rw [Int.mul_assoc, Int.mul_left_comm a]
      · rw [Int.mul_assoc]
    · congr 1
      rw [Int.mul_left_comm]
  rw [e1]
  omega
/-- The sign of a difference. -/
def cmpI (a b : Int) : Int := if a < b then -1 else if b < a then 1 else 0
/-- As an int64, if it is one. -/
def fit (n : Int) : Int × Bool := if -9223372036854775808 ≤ n ∧ n < 9223372036854775808 then (n, true) else (0, false)
/-- By two's complement. -/
def wide (n : Int) : V := .agg [.int .i64 (IntKind.i64.wrap (n / 18446744073709551616)), .int .u64 (n % 18446744073709551616)]
/-- By sign and size. -/
def smag (n : Int) : V := .agg [.bool (decide (n < 0)), .int .u64 ((n.natAbs : Int) / 18446744073709551616), .int .u64 ((n.natAbs : Int) % 18446744073709551616)]
abbrev pairV (p : Int × Bool) : V := .tup [.int .i64 p.1, .bool p.2]
def in64 (n : Int) : Prop := -9223372036854775808 ≤ n ∧ n < 9223372036854775808
theorem abs_in {n : Int} (h : in64 n) : 0 ≤ (n.natAbs : Int) ∧ (n.natAbs : Int) < 18446744073709551616 := by unfold in64 at h; omega

def orV (a b : Int) : Int := if a ≠ 0 then a else b
theorem pure_two (a b : Int) : PureEs [[i64V a], [i64V b]] := fun e he v hv => by
  simp at he
  rcases he with rfl | rfl <;> (simp at hv; subst hv; exact .int _ _)
def sgn2 (a b : Int) : Int := IntKind.i64.wrap (cmpI a 0 * cmpI b 0)
theorem ok123 (a : Int) (ha : in64 a) : PTriple Tryd.prog gv 123 [i64V a] (u64V a.natAbs) := by
  unfold in64 at ha
  refine PTriple.of_body (C := cx) Tryd.func123 rfl (by kernel_rfl) mixed fun E hE => ?_
  repeat' (conv => whnf); first
   | (refine bcase_of (fun hr => ?_) (fun hr => ?_) <;> (try simp only [decide_eq_true_eq, decide_eq_false_iff_not, gt_iff_lt, bne_iff_ne, ne_eq, beq_iff_eq, bne_eq_false_iff_eq, beq_eq_false_iff_ne] at hr) <;> try (exfalso; first | omega | (simp at hr; done)))
   | (refine And.intro (by first | exact Nat.le_of_ble_eq_true rfl | decide) ?_)
   | (refine And.intro (by show indep _ _ = true; kernel_rfl) ?_)
   | (refine Exists.intro _ (And.intro (by first | exact rfl) ?_))
   | fail
  all_goals (conv => whnf)
  all_goals (refine congrArg (fun x : Int => V.int .u64 x) ?_; simp only [wrapU]; omega)
theorem ok83 (a : Int) (ha : in64 a) : PTriple Tryd.prog gv 83 [i64V a] (u64V a.natAbs) := by
  unfold in64 at ha
  refine PTriple.of_body (C := cx) Tryd.func83 rfl (by kernel_rfl) mixed fun E hE => ?_
  repeat' (conv => whnf); first
   | (refine bcase_of (fun hr => ?_) (fun hr => ?_) <;> (try simp only [decide_eq_true_eq, decide_eq_false_iff_not, gt_iff_lt, bne_iff_ne, ne_eq, beq_iff_eq, bne_eq_false_iff_eq, beq_eq_false_iff_ne] at hr) <;> try (exfalso; first | omega | (simp at hr; done)))
   | (refine And.intro (by first | exact Nat.le_of_ble_eq_true rfl | decide) ?_)
   | (refine And.intro (by show indep _ _ = true; kernel_rfl) ?_)
   | (refine Exists.intro _ (And.intro (by first | exact rfl) ?_))
   | fail
  all_goals (conv => whnf)
  all_goals (refine congrArg (fun x : Int => V.int .u64 x) ?_; simp only [wrapU, wrapI]; (repeat' split) <;> omega)
theorem ok122 (x y : Int) (hx : 0 ≤ x ∧ x < 18446744073709551616) (hy : 0 ≤ y ∧ y < 18446744073709551616) : PTriple Tryd.prog gv 122 [u64V x, u64V y] (.tup [u64V (x * y / 18446744073709551616), u64V (x * y % 18446744073709551616)]) := by
  refine PTriple.of_body (C := cx) Tryd.func122 rfl (by kernel_rfl) mixed fun E hE => ?_
  repeat' (conv => whnf); first
   | (refine bcase_of (fun hr => ?_) (fun hr => ?_) <;> (try simp only [decide_eq_true_eq, decide_eq_false_iff_not, gt_iff_lt, bne_iff_ne, ne_eq, beq_iff_eq, bne_eq_false_iff_eq, beq_eq_false_iff_ne] at hr) <;> try (exfalso; first | omega | (simp at hr; done)))
   | (refine And.intro (by first | exact Nat.le_of_ble_eq_true rfl | decide | decide) ?_)
   | (refine And.intro (by show indep _ _ = true; kernel_rfl) ?_)
   | (refine Exists.intro _ (And.intro (by first | exact rfl) ?_))
   | fail
  all_goals (conv => whnf)
  all_goals (show V.tup [u64V _, u64V _] = _)
  have e1 := mul_parts x y
  have b1 := mul_bnd (a := x / 4294967296) (b := y / 4294967296) (by omega) (by omega) (by omega) (by omega)
  have b2 := mul_bnd (a := x / 4294967296) (b := y % 4294967296) (by omega) (by omega) (by omega) (by omega)
  have b3 := mul_bnd (a := x % 4294967296) (b := y / 4294967296) (by omega) (by omega) (by omega) (by omega)
  have b4 := mul_bnd (a := x % 4294967296) (b := y % 4294967296) (by omega) (by omega) (by omega) (by omega)
  simp only [wrapU, shr32, and32 x hx.1 hx.2, and32 y hy.1 hy.2]
  generalize x * y = p at *
  generalize x / 4294967296 * (y / 4294967296) = q1 at *
  generalize x / 4294967296 * (y % 4294967296) = q2 at *
  generalize x % 4294967296 * (y / 4294967296) = q3 at *
  generalize x % 4294967296 * (y % 4294967296) = q4 at *
  rw [and32' _ (by omega) (by omega)]
  refine congrArg (fun z : Int => V.tup [u64V z, u64V (p % 18446744073709551616)]) ?_
  omega

theorem ok124 (x y c : Int) (hx : 0 ≤ x ∧ x < 18446744073709551616) (hy : 0 ≤ y ∧ y < 18446744073709551616) (hc0 : 0 ≤ c) (hc : c ≤ 1) :
    PTriple Tryd.prog gv 124 [u64V x, u64V y, u64V c] (.tup [u64V ((x - y - c) % 18446744073709551616), u64V (if x < y + c then 1 else 0)]) :=
  ok_sub64 Tryd.func124 (by kernel_rfl) (by kernel_rfl) (by kernel_rfl) (by kernel_rfl) x y c hx hy hc0 hc
theorem ok125 (x y c : Int) (hx : 0 ≤ x) (hy : 0 ≤ y) (hc0 : 0 ≤ c) (hc : c ≤ 1) :
    PTriple Tryd.prog gv 125 [u64V x, u64V y, u64V c] (.tup [u64V ((x + y + c) % 18446744073709551616), u64V ((x + y + c) / 18446744073709551616)]) :=
  ok_add64 Tryd.func125 (by kernel_rfl) (by kernel_rfl) (by kernel_rfl) (by kernel_rfl) x y c hx hy hc0 hc
theorem wrapUI (x : Int) : IntKind.u64.wrap (IntKind.i64.wrap x) = x % 18446744073709551616 := by
  rw [wrapU, wrapI]; split <;> omega
theorem wrap_congr {x y : Int} (h : x % 18446744073709551616 = y % 18446744073709551616) : IntKind.i64.wrap x = IntKind.i64.wrap y := by
  rw [wrapI, wrapI, h]
theorem wide_eq {n x y : Int} (h1 : x % 18446744073709551616 = n / 18446744073709551616 % 18446744073709551616) (h2 : y = n % 18446744073709551616) : V.agg [.int .i64 (IntKind.i64.wrap x), .int .u64 y] = wide n := by
  unfold wide
  rw [wrap_congr h1, h2]
theorem abs_mul_nn {a b : Int} (ha : a < 0) (hb : b < 0) : a * b = (a.natAbs : Int) * b.natAbs := by
  rw [show (a.natAbs : Int) = -a by omega, show (b.natAbs : Int) = -b by omega, Int.neg_mul_neg]
theorem abs_mul_pp {a b : Int} (ha : ¬ a < 0) (hb : ¬ b < 0) : a * b = (a.natAbs : Int) * b.natAbs := by
  rw [show (a.natAbs : Int) = a by omega, show (b.natAbs : Int) = b by omega]
theorem abs_mul_np {a b : Int} (ha : a < 0) (hb : ¬ b < 0) : a * b = -((a.natAbs : Int) * b.natAbs) := by
  rw [show (a.natAbs : Int) = -a by omega, show (b.natAbs : Int) = b by omega, Int.neg_mul, Int.neg_neg]
theorem abs_mul_pn {a b : Int} (ha : ¬ a < 0) (hb : b < 0) : a * b = -((a.natAbs : Int) * b.natAbs) := by
  rw [show (a.natAbs : Int) = a by omega, show (b.natAbs : Int) = -b by omega, Int.mul_neg, Int.neg_neg]
theorem abs_mul_bnd {a b : Int} (ha : in64 a) (hb : in64 b) : 0 ≤ (a.natAbs : Int) * b.natAbs ∧ (a.natAbs : Int) * b.natAbs ≤ 85070591730234615865843651857942052864 := by
  unfold in64 at ha hb
  refine ⟨Int.mul_nonneg (by omega) (by omega), ?_⟩
  have := Int.mul_le_mul (show (a.natAbs : Int) ≤ 9223372036854775808 by omega) (show (b.natAbs : Int) ≤ 9223372036854775808 by omega) (by omega) (by decide)
  omega
theorem ok113 (n a b : Int) (ha : in64 a) (hb : in64 b) : PTriple Tryd.prog gv 113 [wide n, i64V a, i64V b] (wide (n + a * b)) := by
  have ha0 := abs_in ha
  have hb0 := abs_in hb
  have hm := abs_mul_bnd ha hb
  refine PTriple.of_body (C := cx) Tryd.func113 rfl (by kernel_rfl) mixed fun E hE => ?_
  repeat' (conv => whnf); first
   | (refine bcase_of (fun hr => ?_) (fun hr => ?_) <;> (try simp only [decide_eq_true_eq, decide_eq_false_iff_not, gt_iff_lt, bne_iff_ne, ne_eq, beq_iff_eq, bne_eq_false_iff_eq, beq_eq_false_iff_ne] at hr) <;> try (exfalso; first | omega | (simp at hr; done)))
   | (refine And.intro (by first | exact Nat.le_of_ble_eq_true rfl | decide) ?_)
   | (refine And.intro (by show indep _ _ = true; kernel_rfl) ?_)
   | (refine Exists.intro _ (And.intro (by first | exact rfl | exact ok123 _ ha | exact ok123 _ hb | exact ok122 _ _ ha0 hb0 | exact ok124 0 _ 0 (by decide) (by first | decide | (rw [wrapUI]; omega) | omega | (split <;> omega)) (by decide) (by decide) | exact ok124 0 _ _ (by decide) (by first | decide | (rw [wrapUI]; omega) | omega | (split <;> omega)) (by first | decide | (rw [wrapUI]; omega) | omega | (split <;> omega)) (by first | decide | (rw [wrapUI]; omega) | omega | (split <;> omega)) | exact ok125 _ _ _ (by first | decide | (rw [wrapUI]; omega) | omega | (split <;> omega)) (by first | decide | (rw [wrapUI]; omega) | omega | (split <;> omega)) (by first | decide | (rw [wrapUI]; omega) | omega | (split <;> omega)) (by first | decide | (rw [wrapUI]; omega) | omega | (split <;> omega))) ?_))
   | fail
  all_goals (conv => whnf)
  all_goals first
    | have hp := abs_mul_nn ‹a < 0› ‹b < 0›
    | have hp := abs_mul_pp ‹¬a < 0› ‹¬b < 0›
    | have hp := abs_mul_np ‹a < 0› ‹¬b < 0›
    | have hp := abs_mul_pn ‹¬a < 0› ‹b < 0›
  all_goals (show V.agg [.int .i64 (IntKind.i64.wrap _), .int .u64 _] = _)
  all_goals refine wide_eq ?_ ?_
  all_goals rw [hp]
  all_goals try simp only [wrapUI]
  all_goals generalize (a.natAbs : Int) * b.natAbs = m at *
  all_goals ((repeat' split) <;> omega)
theorem zero64 : in64 0 := by unfold in64; decide
theorem one64 : in64 1 := by unfold in64; decide
theorem mone64 : in64 (-1) := by unfold in64; decide
theorem pair_of {p : Int × Bool} {b : Bool} (h : p.2 = b) : V.tup [.int .i64 p.1, .bool b] = pairV p := by subst h; rfl
theorem shr63 (x : Int) : x.fdiv (2 ^ min (63 : Int).toNat IntKind.i64.bits) = x / 9223372036854775808 := by
  have : (2 : Int) ^ min (63 : Int).toNat IntKind.i64.bits = 9223372036854775808 := rfl
  rw [this, Int.fdiv_eq_ediv_of_nonneg _ (by decide)]
def in128 (n : Int) : Prop := -170141183460469231731687303715884105728 ≤ n ∧ n < 170141183460469231731687303715884105728
theorem ok100 (n : Int) (h : in128 n) : PTriple Tryd.prog gv 100 [wide n] (pairV (fit n)) := by
  unfold in128 at h
  refine PTriple.of_body (C := cx) Tryd.func100 rfl (by kernel_rfl) mixed fun E hE => ?_
  repeat' (conv => whnf); first
   | (refine bcase_of (fun hr => ?_) (fun hr => ?_) <;> (try simp only [decide_eq_true_eq, decide_eq_false_iff_not, gt_iff_lt, bne_iff_ne, ne_eq, beq_iff_eq, bne_eq_false_iff_eq, beq_eq_false_iff_ne] at hr) <;> try (exfalso; first | omega | (simp at hr; done)))
   | (refine And.intro (by first | exact Nat.le_of_ble_eq_true rfl | decide | decide) ?_)
   | (refine And.intro (by show indep _ _ = true; kernel_rfl) ?_)
   | (refine Exists.intro _ (And.intro (by first | exact rfl) ?_))
   | fail
  all_goals (conv => whnf)
  all_goals (rw [shr63] at hr; simp only [wrapI] at hr)
  · show pairV (0, false) = _
    refine congrArg pairV ?_
    unfold fit
    rw [if_neg]
    intro h1
    apply hr
    (repeat' split) <;> omega
  · show pairV (IntKind.i64.wrap (n % 18446744073709551616), true) = _
    refine congrArg pairV ?_
    unfold fit
    have : -9223372036854775808 ≤ n ∧ n < 9223372036854775808 := by
      revert hr; (repeat' split) <;> intro hr <;> omega
    rw [if_pos this]
    refine congrArg (fun x => (x, true)) ?_
    rw [wrapI]; split <;> omega
abbrev i64s (l : List Int) : V := .lst 1 (l.map fun x => [i64V x])
theorem pure_i64s (l : List Int) : PureEs (l.map fun x => [i64V x]) := fun e he v hv => by
  obtain ⟨x, _, rfl⟩ := List.mem_map.1 he
  cases hv with
  | head => exact .int _ _
  | tail _ h => cases h
theorem sum_take {l : List Int} {m : Nat} {x : Int} (h : l[m]? = some x) : (l.take (m + 1)).sum = (l.take m).sum + x := by
  obtain ⟨hl, rfl⟩ := List.getElem?_eq_some_iff.1 h
  rw [List.take_succ_eq_append_getElem hl, List.sum_append]; simp
theorem sum_bnd : ∀ (l : List Int), (∀ x ∈ l, in64 x) → -9223372036854775808 * (l.length : Int) ≤ l.sum ∧ l.sum ≤ 9223372036854775808 * (l.length : Int)
  | [], _ => by simp
  | x :: r, h => by
    have h1 := h x List.mem_cons_self
    have h2 := sum_bnd r fun y hy => h y (List.mem_cons_of_mem _ hy)
    unfold in64 at h1
    simp only [List.sum_cons, List.length_cons]
    omega
def boxW (n : Int) : List V := [.int .i64 (IntKind.i64.wrap (n / 18446744073709551616)), .int .u64 (n % 18446744073709551616)]
def st10 (l : List Int) (i n : Int) : St Empty := mkSt 21 [(4, .ref (5, 1) 0), (7, i64s l), (8, i64V (l.map fun x => [i64V x]).length), (9, i64V i)] [(4, .box (boxW n))] []
theorem mul_bnd64 {a b : Int} (ha : in64 a) (hb : in64 b) : in128 (a * b) := by
  have h := abs_mul_bnd ha hb
  unfold in128
  by_cases h1 : a < 0 <;> by_cases h2 : b < 0
  · have := abs_mul_nn h1 h2; omega
  · have := abs_mul_np h1 h2; omega
  · have := abs_mul_pn h1 h2; omega
  · have := abs_mul_pp h1 h2; omega
end Go.Proofs.YtbppemcdphgknaaDoor
/- Chapter 13: wide sums of the reference, as in chapter 1. -/
namespace Go.Proofs.YtbppemcdphgknaaDoor
open Go Go.Vm
set_option maxRecDepth 100000
set_option maxHeartbeats 40000000
set_option linter.unusedSimpArgs false
set_option linter.unusedVariables false
theorem smag_of {k : Int} {b : Bool} {hi lo : Int} (h1 : b = decide (k < 0)) (h2 : hi = (k.natAbs : Int) / 18446744073709551616) (h3 : lo = (k.natAbs : Int) % 18446744073709551616) : V.agg [.bool b, .int .u64 hi, .int .u64 lo] = smag k := by
  subst h1; subst h2; subst h3; rfl
theorem smag_cells {n m : Int} : ((decide (n < 0) == decide (m < 0)) && ((((n.natAbs : Int) / 18446744073709551616) == ((m.natAbs : Int) / 18446744073709551616)) && ((((n.natAbs : Int) % 18446744073709551616) == ((m.natAbs : Int) % 18446744073709551616)) && true))) = decide (n = m) := by
  rw [Bool.eq_iff_iff]
  simp only [Bool.and_eq_true, beq_iff_eq, decide_eq_decide, decide_eq_true_eq, and_true]
  omega
def small (b : Int) (n : Int) : Prop := (n.natAbs : Int) < b
abbrev W8 : Int := 340282366920938463463374607431768211456
theorem cmp_mul (a b : Int) : IntKind.i64.wrap (cmpI a 0 * cmpI b 0) = cmpI (a * b) 0 := by
  rcases Int.lt_trichotomy a 0 with ha | rfl | ha <;> rcases Int.lt_trichotomy b 0 with hb | rfl | hb
  · have := Int.mul_pos_of_neg_of_neg ha hb
    simp only [cmpI, if_pos ha, if_pos hb, if_neg (show ¬ a * b < 0 by omega), if_pos this]; rfl
  · rw [show cmpI 0 0 = 0 from rfl, Int.mul_zero, Int.mul_zero]; rfl
  · have := Int.mul_neg_of_neg_of_pos ha hb
    simp only [cmpI, if_pos ha, if_neg (show ¬ b < 0 by omega), if_pos hb, if_pos this]; rfl
  · rw [show cmpI 0 0 = 0 from rfl, Int.zero_mul, Int.zero_mul]; rfl
  · rfl
  · rw [show cmpI 0 0 = 0 from rfl, Int.zero_mul, Int.zero_mul]; rfl
  · have := Int.mul_neg_of_pos_of_neg ha hb
    simp only [cmpI, if_pos hb, if_neg (show ¬ a < 0 by omega), if_pos ha, if_pos this]; rfl
  · rw [show cmpI 0 0 = 0 from rfl, Int.mul_zero, Int.mul_zero]; rfl
  · have := Int.mul_pos ha hb
    simp only [cmpI, if_neg (show ¬ a < 0 by omega), if_pos ha, if_neg (show ¬ b < 0 by omega), if_pos hb, if_neg (show ¬ a * b < 0 by omega), if_pos this]; rfl
theorem cmp_cmp (p q : Int) (h : ¬ cmpI p 0 = cmpI q 0) : cmpI (cmpI p 0) (cmpI q 0) = cmpI p q := by
  unfold cmpI at *
  rcases Int.lt_trichotomy p 0 with hp | rfl | hp <;> rcases Int.lt_trichotomy q 0 with hq | rfl | hq <;> (repeat' split at h) <;> (repeat' split) <;> omega
theorem pair_is {p : Int × Bool} {n : Int} {b : Bool} (h1 : n = p.1) (h2 : b = p.2) : V.tup [.int .i64 n, .bool b] = pairV p := by
  subst h1; subst h2; rfl
abbrev smagB (s : Bool) (n : Int) : V := .agg [.bool s, .int .u64 ((n.natAbs : Int) / 18446744073709551616), .int .u64 ((n.natAbs : Int) % 18446744073709551616)]
theorem abs_mul (a b : Int) : (a.natAbs : Int) * b.natAbs = ((a * b).natAbs : Int) := by
  rw [Int.natAbs_mul]; rfl
theorem ok122' (a b : Int) (ha : in64 a) (hb : in64 b) : PTriple Tryd.prog gv 122 [u64V a.natAbs, u64V b.natAbs] (.tup [u64V (((a * b).natAbs : Int) / 18446744073709551616), u64V (((a * b).natAbs : Int) % 18446744073709551616)]) := by
  rw [← abs_mul]
  exact ok122 _ _ (abs_in ha) (abs_in hb)
theorem cmp_or (p q : Int) (h : cmpI p 0 = cmpI q 0) : IntKind.i64.wrap (cmpI p 0 * orV (cmpI ((p.natAbs : Int) / 18446744073709551616) ((q.natAbs : Int) / 18446744073709551616)) (cmpI ((p.natAbs : Int) % 18446744073709551616) ((q.natAbs : Int) % 18446744073709551616))) = cmpI p q := by
  have key : orV (cmpI ((p.natAbs : Int) / 18446744073709551616) ((q.natAbs : Int) / 18446744073709551616)) (cmpI ((p.natAbs : Int) % 18446744073709551616) ((q.natAbs : Int) % 18446744073709551616)) = cmpI p.natAbs q.natAbs := by
    unfold orV cmpI
    (repeat' split) <;> omega
  rw [key]
  unfold cmpI at *
  rcases Int.lt_trichotomy p 0 with hp | rfl | hp
  · have hq : q < 0 := by
      rw [if_pos hp] at h
      (repeat' split at h) <;> omega
    rw [if_pos hp, wrapI]
    (repeat' split) <;> omega
  · have hq : q = 0 := by
      simp at h
      (repeat' split at h) <;> omega
    subst hq
    decide
  · have hq : 0 < q := by
      rw [if_neg (show ¬ p < 0 by omega), if_pos hp] at h
      (repeat' split at h) <;> omega
    rw [if_neg (show ¬ p < 0 by omega), if_pos hp, wrapI]
    (repeat' split) <;> omega
theorem ok61 (a : Int) (ha : in64 a) : PTriple Tryd.prog gv 61 [i64V a] (smag a) := by
  have ha2 := ha; unfold in64 at ha2
  refine PTriple.of_body (C := cx) Tryd.func61 rfl (by kernel_rfl) mixed fun E hE => ?_
  repeat' (conv => whnf); first
   | (refine bcase_of (fun hr => ?_) (fun hr => ?_) <;> (try simp only [decide_eq_true_eq, decide_eq_false_iff_not, gt_iff_lt, bne_iff_ne, ne_eq, beq_iff_eq, bne_eq_false_iff_eq, beq_eq_false_iff_ne] at hr) <;> try (exfalso; first | omega | (simp at hr; done)))
   | (refine And.intro (by first | exact Nat.le_of_ble_eq_true rfl | decide) ?_)
   | (refine And.intro (by show indep _ _ = true; kernel_rfl) ?_)
   | (refine Exists.intro _ (And.intro (by first | exact rfl | exact ok83 _ ha) ?_))
   | fail
  all_goals (conv => whnf)
  all_goals refine smag_of ?_ ?_ ?_
  all_goals (try simp only [wrapU] at *)
  all_goals (first | omega | rfl | (exact (decide_eq_true (show _ by omega)).symm) | (exact (decide_eq_false (show _ by omega)).symm) | (exact decide_eq_decide.2 (show _ by omega)) | skip)
theorem ok102 (n m : Int) (s t : Bool) : PTriple Tryd.prog gv 102 [smagB s n, smagB t m] (.bool (decide ((n.natAbs : Int) < m.natAbs))) := by
  refine PTriple.of_body (C := cx) Tryd.func102 rfl (by kernel_rfl) mixed fun E hE => ?_
  repeat' (conv => whnf); first
   | (refine bcase_of (fun hr => ?_) (fun hr => ?_) <;> (try simp only [decide_eq_true_eq, decide_eq_false_iff_not, gt_iff_lt, bne_iff_ne, ne_eq, beq_iff_eq, bne_eq_false_iff_eq, beq_eq_false_iff_ne] at hr) <;> try (exfalso; first | omega | (simp at hr; done)))
   | (refine And.intro (by first | exact Nat.le_of_ble_eq_true rfl | decide) ?_)
   | (refine And.intro (by show indep _ _ = true; kernel_rfl) ?_)
   | (refine Exists.intro _ (And.intro (by first | exact rfl) ?_))
   | fail
  all_goals (conv => whnf)
  all_goals (first | exact congrArg V.bool (decide_eq_true (show _ by omega)).symm | exact congrArg V.bool (decide_eq_false (show _ by omega)).symm)
theorem ok81 (n m : Int) (s t : Bool) (hs : decide (n < 0) = s) (ht : decide (m < 0) = t) (hn : (n.natAbs : Int) < 170141183460469231731687303715884105728) (hm : (m.natAbs : Int) < 170141183460469231731687303715884105728) : PTriple Tryd.prog gv 81 [smagB s n, smagB t m] (smag (n + m)) := by
  subst hs
  subst ht
  refine PTriple.of_body (C := cx) Tryd.func81 rfl (by kernel_rfl) mixed fun E hE => ?_
  repeat' (conv => whnf); first
   | (refine bcase_of (fun hr => ?_) (fun hr => ?_) <;> (try simp only [decide_eq_true_eq, decide_eq_false_iff_not, gt_iff_lt, bne_iff_ne, ne_eq, beq_iff_eq, bne_eq_false_iff_eq, beq_eq_false_iff_ne] at hr) <;> try (exfalso; first | omega | (simp at hr; done)))
   | (refine And.intro (by first | exact Nat.le_of_ble_eq_true rfl | decide) ?_)
   | (refine And.intro (by show indep _ _ = true; kernel_rfl) ?_)
   | (refine Exists.intro _ (And.intro (by first | exact rfl | exact ok102 _ _ _ _) ?_))
   | fail
  all_goals (conv => whnf)
  all_goals refine smag_of ?_ ?_ ?_
  all_goals (try simp only [wrapU] at *)
  all_goals (first | omega | rfl | (exact (decide_eq_true (show _ by omega)).symm) | (exact (decide_eq_false (show _ by omega)).symm) | (exact decide_eq_decide.2 (show _ by omega)) | skip)
theorem ok103 (n : Int) (s : Bool) (hs : decide (n < 0) = s) : PTriple Tryd.prog gv 103 [smagB s n] (pairV (fit n)) := by
  subst hs
  refine PTriple.of_body (C := cx) Tryd.func103 rfl (by kernel_rfl) mixed fun E hE => ?_
  repeat' (conv => whnf); first
   | (refine bcase_of (fun hr => ?_) (fun hr => ?_) <;> (try simp only [decide_eq_true_eq, decide_eq_false_iff_not, gt_iff_lt, bne_iff_ne, ne_eq, beq_iff_eq, bne_eq_false_iff_eq, beq_eq_false_iff_ne] at hr) <;> try (exfalso; first | omega | (simp at hr; done)))
   | (refine And.intro (by first | exact Nat.le_of_ble_eq_true rfl | decide) ?_)
   | (refine And.intro (by show indep _ _ = true; kernel_rfl) ?_)
   | (refine Exists.intro _ (And.intro (by first | exact rfl) ?_))
   | fail
  all_goals (conv => whnf)
  all_goals refine pair_is ?_ ?_
  all_goals unfold fit
  all_goals try simp only [wrapI]
  all_goals ((repeat' split) <;> first | rfl | omega)

theorem mulsB {x y : Int} (hx : 0 ≤ x ∧ x < 18446744073709551616) (hy : 0 ≤ y ∧ y < 18446744073709551616) :
    (0 ≤ x / 4294967296 * (y / 4294967296) ∧ x / 4294967296 * (y / 4294967296) ≤ 18446744065119617025) ∧ (0 ≤ x / 4294967296 * (y % 4294967296) ∧ x / 4294967296 * (y % 4294967296) ≤ 18446744065119617025) ∧
    (0 ≤ x % 4294967296 * (y / 4294967296) ∧ x % 4294967296 * (y / 4294967296) ≤ 18446744065119617025) ∧ (0 ≤ x % 4294967296 * (y % 4294967296) ∧ x % 4294967296 * (y % 4294967296) ≤ 18446744065119617025) :=
  ⟨mul_bnd (by omega) (by omega) (by omega) (by omega), mul_bnd (by omega) (by omega) (by omega) (by omega), mul_bnd (by omega) (by omega) (by omega) (by omega), mul_bnd (by omega) (by omega) (by omega) (by omega)⟩
theorem shl32' (x : Int) : x * 2 ^ min (32 : Int).toNat IntKind.u64.bits = x * 4294967296 := rfl
theorem ok82 (a b : Int) (ha : in64 a) (hb : in64 b) : PTriple Tryd.prog gv 82 [i64V a, i64V b] (smag (a * b)) := by
  refine PTriple.of_body (C := cx) Tryd.func82 rfl (by kernel_rfl) mixed fun E hE => ?_
  repeat' (conv => whnf); first
   | (refine bcase_of (fun hr => ?_) (fun hr => ?_) <;> (try simp only [decide_eq_true_eq, decide_eq_false_iff_not, gt_iff_lt, bne_iff_ne, ne_eq, beq_iff_eq, bne_eq_false_iff_eq, beq_eq_false_iff_ne] at hr) <;> try (exfalso; first | omega | (simp at hr; done)))
   | (refine And.intro (by first | exact Nat.le_of_ble_eq_true rfl | decide | decide) ?_)
   | (refine And.intro (by show indep _ _ = true; kernel_rfl) ?_)
   | (refine Exists.intro _ (And.intro (by first | exact rfl | exact ok83 _ ha | exact ok83 _ hb) ?_))
   | fail
  all_goals (conv => whnf)
  all_goals have ea := abs_in ha
  all_goals have eb := abs_in hb
  all_goals have hab := abs_mul_bnd ha hb
  all_goals first
    | have hp := abs_mul_nn ‹a < 0› ‹b < 0›
    | have hp := abs_mul_pp ‹¬a < 0› ‹¬b < 0›
    | have hp := abs_mul_np ‹a < 0› ‹¬b < 0›
    | have hp := abs_mul_pn ‹¬a < 0› ‹b < 0›
  all_goals have e1 := mul_parts (a.natAbs : Int) b.natAbs
  all_goals obtain ⟨⟨b1, b1'⟩, ⟨b2, b2'⟩, ⟨b3, b3'⟩, ⟨b4, b4'⟩⟩ := mulsB ea eb
  all_goals simp only [shr32, and32 _ ea.1 ea.2, and32 _ eb.1 eb.2] at *
  all_goals rw [hp]
  all_goals clear hp ha hb
  all_goals refine smag_of ?_ ?_ ?_
  all_goals generalize (a.natAbs : Int) * b.natAbs = pr at *
  all_goals generalize (a.natAbs : Int) / 4294967296 * (b.natAbs / 4294967296) = q1 at *
  all_goals generalize (a.natAbs : Int) / 4294967296 * (b.natAbs % 4294967296) = q2 at *
  all_goals generalize (a.natAbs : Int) % 4294967296 * (b.natAbs / 4294967296) = q3 at *
  all_goals generalize (a.natAbs : Int) % 4294967296 * (b.natAbs % 4294967296) = q4 at *
  all_goals clear ea eb
  all_goals simp only [wrapU, shl32'] at *
  all_goals have r1 : q1 % 18446744073709551616 = q1 := by omega
  all_goals have r2 : q2 % 18446744073709551616 = q2 := by omega
  all_goals have r3 : q3 % 18446744073709551616 = q3 := by omega
  all_goals have r4 : q4 % 18446744073709551616 = q4 := by omega
  all_goals (try simp only [r1, r2, r3, r4] at *)
  all_goals have n2 := and32' q2 b2 (by omega)
  all_goals have n3 := and32' q3 b3 (by omega)
  all_goals have n4 := and32' q4 b4 (by omega)
  all_goals (try simp only [n2, n3, n4] at *)
  all_goals have o := or32' (((q4 / 4294967296 + q2 % 4294967296) % 18446744073709551616 + q3 % 4294967296) % 18446744073709551616 * 4294967296 % 18446744073709551616) (q4 % 4294967296) (by omega) (by omega) (by omega) (by omega) (by omega)
  all_goals (try simp only [o] at *)
  all_goals clear hE E
  all_goals (first | omega | (exact (decide_eq_true (show _ by omega)).symm) | (exact (decide_eq_false (show _ by omega)).symm) | skip)

end Go.Proofs.YtbppemcdphgknaaDoor
/- Chapter 13: entries, copies, what is light, alike, as in chapter 14. -/
namespace Go.Proofs.YtbppemcdphgknaaDoor
open Go Go.Vm
set_option maxRecDepth 100000
set_option maxHeartbeats 40000000
set_option linter.unusedSimpArgs false
set_option linter.unusedVariables false
/-- An entry of a chain: its version, its tag, its cell. -/
structure En where
  v : Int
  o : Int
  n : Int
  a : Int
  b : Int
  p : List (Int × Int)
  q : List (Int × Int)
deriving DecidableEq
def encR (x : Int × Int) : List V := [i64V x.1, i64V x.2]
abbrev bagV (l : List (Int × Int)) : V := .lst 2 (l.map encR)
def encE (e : En) : List V := [i64V e.v, i64V e.o, i64V e.n, i64V e.a, i64V e.b, bagV e.p, bagV e.q]
abbrev chV (l : List En) : V := .lst 7 (l.map encE)
theorem pure_R (l : List (Int × Int)) : PureEs (l.map encR) := fun e he v hv => by
  obtain ⟨x, _, rfl⟩ := List.mem_map.1 he
  simp [encR] at hv
  rcases hv with rfl | rfl <;> exact .int _ _
theorem pure_E (l : List En) : PureEs (l.map encE) := fun e he v hv => by
  obtain ⟨x, _, rfl⟩ := List.mem_map.1 he
  simp [encE] at hv
  rcases hv with rfl | rfl | rfl | rfl | rfl | rfl | rfl
  · exact .int _ _
  · exact .int _ _
  · exact .int _ _
  · exact .int _ _
  · exact .int _ _
  · exact .lst (pure_R _)
  · exact .lst (pure_R _)
theorem pure_nil : PureEs [] := fun e he => by cases he
theorem one_R (l : List (Int × Int)) : allOne (l.map encR) 2 := fun e he => by
  obtain ⟨x, _, rfl⟩ := List.mem_map.1 he
  exact ⟨rfl, rfl⟩
theorem one_E (l : List En) : allOne (l.map encE) 7 := fun e he => by
  obtain ⟨x, _, rfl⟩ := List.mem_map.1 he
  exact ⟨rfl, rfl⟩
abbrev cellV (n a b : Int) (p q : List (Int × Int)) : V := .agg [i64V n, i64V a, i64V b, bagV p, bagV q]
theorem copied0 (z : List V) (l : List (List V)) : lput (List.replicate ((l.length : Nat) : Int).toNat z) 0 (l.take ((l.length : Nat) : Int).toNat) = l := by
  rw [Int.toNat_natCast, List.take_length]; simp [lput]
theorem copied (z : List V) (l : List (List V)) : ((lput (List.replicate ((l.length : Nat) : Int).toNat z) 0 (l.take ((l.length : Nat) : Int).toNat)).drop 0).take ((l.length : Nat) : Int).toNat = l := by
  rw [copied0]; simp
theorem copied_len (z : List V) (l : List (List V)) : 0 + ((l.length : Nat) : Int).toNat ≤ (lput (List.replicate ((l.length : Nat) : Int).toNat z) 0 (l.take ((l.length : Nat) : Int).toNat)).length := by
  rw [copied0]; simp
/-- A row of nothing yet, filled. -/
theorem cells_ok (n a b : Int) (p q : List (Int × Int)) (hp : p.length ≤ 100000) (hq : q.length ≤ 100000) : PTriple Tryd.prog gv 50 [cellV n a b p q] (cellV n a b p q) := by
  have lp : (p.map encR).length = p.length := by simp
  have lq : (q.map encR).length = q.length := by simp
  have bp : (0 : Int) ≤ (p.map encR).length ∧ ((p.map encR).length : Int) ≤ (p.map encR).length ∧ ((p.map encR).length : Int) * 16 ≤ roomBound ∧ ((p.map encR).length : Int) ≤ roomBound := ⟨by omega, by omega, by unfold roomBound; omega, by unfold roomBound; omega⟩
  have bq : (0 : Int) ≤ (q.map encR).length ∧ ((q.map encR).length : Int) ≤ (q.map encR).length ∧ ((q.map encR).length : Int) * 16 ≤ roomBound ∧ ((q.map encR).length : Int) ≤ roomBound := ⟨by omega, by omega, by unfold roomBound; omega, by unfold roomBound; omega⟩
  refine PTriple.of_body (C := cx) Tryd.func50 rfl (by kernel_rfl) mixed fun E hE => ?_
  repeat' (conv => whnf); first
   | (refine bcase_of (fun hr => ?_) (fun hr => ?_) <;> try (exfalso; simp at hr; done))
   | (apply And.intro; · first | exact Nat.le_of_ble_eq_true rfl | (show indep _ _ = true; kernel_rfl) | decide | exact ⟨by decide, by decide⟩ | exact ⟨Nat.le_of_ble_eq_true rfl, allOne_of rfl⟩ | exact bp | exact bq | exact ⟨rfl, copied_len _ _⟩ | (rw [copied]; exact pure_R _) | exact ⟨by simp, one_R _⟩)
   | (apply Exists.intro; apply And.intro; · first | exact rfl)
   | fail
  refine VLoop.unroll hE mixed ?_
  repeat' (conv => whnf); first
   | (refine bcase_of (fun hr => ?_) (fun hr => ?_) <;> try (exfalso; simp at hr; done))
   | (apply And.intro; · first | exact Nat.le_of_ble_eq_true rfl | (show indep _ _ = true; kernel_rfl) | decide | exact ⟨by decide, by decide⟩ | exact ⟨Nat.le_of_ble_eq_true rfl, allOne_of rfl⟩ | exact bp | exact bq | exact ⟨rfl, copied_len _ _⟩ | (rw [copied]; exact pure_R _) | exact ⟨by simp, one_R _⟩)
   | (apply Exists.intro; apply And.intro; · first | exact rfl)
   | fail
  refine VLoop.weak [.snap (2, 1) 3] ?_
  repeat' (conv => whnf); first
   | (refine bcase_of (fun hr => ?_) (fun hr => ?_) <;> try (exfalso; simp at hr; done))
   | (apply And.intro; · first | exact Nat.le_of_ble_eq_true rfl | (show indep _ _ = true; kernel_rfl) | decide | exact ⟨by decide, by decide⟩ | exact ⟨Nat.le_of_ble_eq_true rfl, allOne_of rfl⟩ | exact bp | exact bq | exact ⟨rfl, copied_len _ _⟩ | (rw [copied]; exact pure_R _) | exact ⟨by simp, one_R _⟩)
   | (apply Exists.intro; apply And.intro; · first | exact rfl)
   | fail
  refine VLoop.unroll hE mixed ?_
  repeat' (conv => whnf); first
   | (refine bcase_of (fun hr => ?_) (fun hr => ?_) <;> try (exfalso; simp at hr; done))
   | (apply And.intro; · first | exact Nat.le_of_ble_eq_true rfl | (show indep _ _ = true; kernel_rfl) | decide | exact ⟨by decide, by decide⟩ | exact ⟨Nat.le_of_ble_eq_true rfl, allOne_of rfl⟩ | exact bp | exact bq | exact ⟨rfl, copied_len _ _⟩ | (rw [copied]; exact pure_R _) | exact ⟨by simp, one_R _⟩)
   | (apply Exists.intro; apply And.intro; · first | exact rfl)
   | fail
  refine VLoop.weak [.snap (2, 1) 4] ?_
  repeat' (conv => whnf); first
   | (refine bcase_of (fun hr => ?_) (fun hr => ?_) <;> try (exfalso; simp at hr; done))
   | (apply And.intro; · first | exact Nat.le_of_ble_eq_true rfl | (show indep _ _ = true; kernel_rfl) | decide | exact ⟨by decide, by decide⟩ | exact ⟨Nat.le_of_ble_eq_true rfl, allOne_of rfl⟩ | exact bp | exact bq | exact ⟨rfl, copied_len _ _⟩ | (rw [copied]; exact pure_R _) | exact ⟨by simp, one_R _⟩)
   | (apply Exists.intro; apply And.intro; · first | exact rfl)
   | fail
  refine VLoop.unroll hE mixed ?_
  repeat' (conv => whnf); first
   | (refine bcase_of (fun hr => ?_) (fun hr => ?_) <;> try (exfalso; simp at hr; done))
   | (apply And.intro; · first | exact Nat.le_of_ble_eq_true rfl | (show indep _ _ = true; kernel_rfl) | decide | exact ⟨by decide, by decide⟩ | exact ⟨Nat.le_of_ble_eq_true rfl, allOne_of rfl⟩ | exact bp | exact bq | exact ⟨rfl, copied_len _ _⟩ | (rw [copied]; exact pure_R _) | exact ⟨by simp, one_R _⟩)
   | (apply Exists.intro; apply And.intro; · first | exact rfl)
   | fail
  all_goals (conv => whnf)
  rw [copied, copied]
  rfl

def EnOk (e : En) : Prop := e.p.length ≤ 100000 ∧ e.q.length ≤ 100000
theorem put_same (l : List En) (i : Nat) (e : En) (h : l[i]? = some e) : lset (l.map encE) i (lput (encE e) 2 [i64V e.n, i64V e.a, i64V e.b, bagV e.p, bagV e.q]) = l.map encE := by
  have hlt := (List.getElem?_eq_some_iff.1 h).1
  have e1 : lput (encE e) 2 [i64V e.n, i64V e.a, i64V e.b, bagV e.p, bagV e.q] = encE e := rfl
  rw [e1, lset_eq]
  refine List.ext_getElem? fun j => ?_
  rw [List.getElem?_set]
  by_cases hj : i = j
  · subst hj; rw [if_pos rfl, if_pos (by simpa using hlt), List.getElem?_map, h]; rfl
  · rw [if_neg hj]
theorem take_all (l : List En) : ((l.map encE).drop 0).take l.length = l.map encE := by rw [List.drop_zero, List.take_of_length_le (by simp)]
def stCopy (l : List En) (i : Int) : St DV := mkSt 28 [(0, chV l), (3, .rsl (9, 1) 7 0 l.length), (12, .rsl (9, 1) 7 0 l.length), (13, i64V l.length), (14, i64V i)] [(8, .row 7 (l.map encE) false)] []
theorem copy_ok (l : List En) (hl : l.length ≤ 1000) (hb : ∀ e ∈ l, EnOk e) : PTriple Tryd.prog gv 53 [chV l] (chV l) := by
  have hlen : (l.map encE).length = l.length := by simp
  have bl : (0 : Int) ≤ (l.map encE).length ∧ ((l.map encE).length : Int) ≤ (l.map encE).length ∧ ((l.map encE).length : Int) * 88 ≤ roomBound ∧ ((l.map encE).length : Int) ≤ roomBound := ⟨by omega, by omega, by unfold roomBound; omega, by unfold roomBound; omega⟩
  refine PTriple.of_body (C := cx) Tryd.func53 rfl (by kernel_rfl) mixed fun E hE => ?_
  repeat' (conv => whnf); first
   | (refine bcase_of (fun hr => ?_) (fun hr => ?_) <;> try (exfalso; simp at hr; done))
   | (apply And.intro; · first | exact Nat.le_of_ble_eq_true rfl | (show indep _ _ = true; kernel_rfl) | decide | exact ⟨by decide, by decide⟩ | exact ⟨Nat.le_of_ble_eq_true rfl, allOne_of rfl⟩ | exact bl | exact pure_R _ | exact ⟨by simp, one_E _⟩)
   | (apply Exists.intro; apply And.intro; · first | exact rfl)
   | fail
  refine VLoop.norm [0, 3, 12, 13, 14] [8] ?_
  repeat' (conv => whnf); first
   | (refine bcase_of (fun hr => ?_) (fun hr => ?_) <;> try (exfalso; simp at hr; done))
   | (apply And.intro; · first | exact Nat.le_of_ble_eq_true rfl | (show indep _ _ = true; kernel_rfl) | decide | exact pure_E _ | (rw [copied0]; exact pure_E _))
   | (apply Exists.intro; apply And.intro; · first | exact rfl)
   | fail
  rw [copied0]
  refine VLoop.inv (fun i : Int => stCopy l i) (fun i => 0 ≤ i ∧ i ≤ l.length) (fun i => l.length - i.toNat) 0 ⟨Int.le_refl _, by omega⟩ (by simp only [stCopy, hlen, Int.toNat_natCast]; rfl) ?_
  intro i hi ih
  refine VLoop.unroll hE mixed ?_
  conv => whnf
  refine bcase_of (fun hr => ?_) (fun hr => ?_)
  case refine_2 =>
    repeat' (conv => whnf); first
     | (refine bcase_of (fun hr => ?_) (fun hr => ?_) <;> try (exfalso; simp at hr; done))
     | (apply And.intro; · first | exact Nat.le_of_ble_eq_true rfl | (show indep _ _ = true; kernel_rfl) | decide | (show 0 + l.length ≤ (l.map encE).length; rw [Nat.zero_add, hlen]; exact Nat.le_refl _) | (rw [take_all]; exact pure_E _) | exact ⟨by decide, by decide⟩ | exact ⟨Nat.le_of_ble_eq_true rfl, allOne_of rfl⟩ | exact bl | exact pure_R _ | exact ⟨by simp, one_E _⟩)
     | (apply Exists.intro; apply And.intro; · first | exact rfl)
     | fail
    all_goals (conv => whnf)
    show retOf [V.lst 7 (((l.map encE).drop 0).take l.length)] = chV l
    rw [take_all]; rfl
  case refine_1 =>
    have hin : i < l.length := by simpa using hr
    have hw : IntKind.i64.wrap (i + 1) = i + 1 := wrap64 (by omega) (by omega)
    obtain ⟨e, he⟩ : ∃ z, l[i.toNat]? = some z := ⟨_, List.getElem?_eq_getElem (by omega)⟩
    have hem := hb e (List.mem_of_getElem? he)
    have hps : lset (l.map encE) (0 + i.toNat) (lput (encE e) (0 + 2) (V.agg [i64V e.n, i64V e.a, i64V e.b, bagV e.p, bagV e.q]).cells) = l.map encE := by rw [Nat.zero_add]; exact put_same l _ e he
    repeat' (conv => whnf); first
     | (refine bcase_of (fun hr => ?_) (fun hr => ?_) <;> try (exfalso; simp at hr; done))
     | (apply And.intro; · first | exact Nat.le_of_ble_eq_true rfl | (show indep _ _ = true; kernel_rfl) | decide | exact ⟨by decide, by decide⟩ | exact ⟨Nat.le_of_ble_eq_true rfl, allOne_of rfl⟩ | exact bl | exact pure_R _ | exact ⟨by simp, one_E _⟩ | exact ⟨hi.1, hin⟩)
     | (apply Exists.intro; apply And.intro; · first | exact rfl | exact cells_ok e.n e.a e.b e.p e.q hem.1 hem.2 | (show lget _ _ = some (encE e); rw [lget_eq, Nat.zero_add, List.getElem?_map, he]; rfl))
     | fail
    all_goals (conv => whnf)
    refine VLoop.norm [0, 3, 12, 13, 14] [8] ?_
    repeat' (conv => whnf); first
     | (refine bcase_of (fun hr => ?_) (fun hr => ?_) <;> try (exfalso; simp at hr; done))
     | (apply And.intro; · first | exact Nat.le_of_ble_eq_true rfl | (show indep _ _ = true; kernel_rfl) | decide | exact pure_E _ | (rw [hps]; exact pure_E _))
     | (apply Exists.intro; apply And.intro; · first | exact rfl)
     | fail
    rw [hps]
    exact ih (IntKind.i64.wrap (i + 1)) ⟨by omega, by omega⟩ (by omega)

theorem lenR (l : List (Int × Int)) : (l.map encR).length = l.length := by simp
theorem lenE (l : List En) : (l.map encE).length = l.length := by simp
theorem getR {l : List (Int × Int)} {i : Nat} {x : Int × Int} (h : l[i]? = some x) : lget (l.map encR) ((i : Int).toNat) = some (encR x) := by rw [lget_eq, Int.toNat_natCast, List.getElem?_map, h]; rfl
theorem getE {l : List En} {i : Nat} {x : En} (h : l[i]? = some x) : lget (l.map encE) ((i : Int).toNat) = some (encE x) := by rw [lget_eq, Int.toNat_natCast, List.getElem?_map, h]; rfl
def stS8 (p q : List (Int × Int)) (i : Nat) : St DV := mkSt 26 [(0, bagV p), (1, bagV q), (5, i64V i)] [] []
theorem same8_ok (p q : List (Int × Int)) (hp : p.length ≤ 100000) (hq : q.length ≤ 100000) : PTriple Tryd.prog gv 52 [bagV p, bagV q] (.bool (decide (p = q))) := by
  have lp := lenR p
  have lq := lenR q
  by_cases hlen : p.length = q.length
  case neg =>
    have hd : decide (p = q) = false := by simp; intro e; exact hlen (by rw [e])
    rw [hd]
    refine PTriple.of_body (C := cx) Tryd.func52 rfl (by kernel_rfl) mixed fun E hE => ?_
    repeat' (conv => whnf); first
     | (refine bcase_of (fun hr => ?_) (fun hr => ?_) <;> (try simp at hr) <;> try omega)
     | (apply And.intro; · first | exact Nat.le_of_ble_eq_true rfl | (show indep _ _ = true; kernel_rfl) | decide | exact ⟨by decide, by decide⟩ | exact ⟨Nat.le_of_ble_eq_true rfl, allOne_of rfl⟩)
     | (apply Exists.intro; apply And.intro; · first | exact rfl)
     | fail
    all_goals (conv => whnf)
    all_goals rfl
  case pos =>
    refine PTriple.of_body (C := cx) Tryd.func52 rfl (by kernel_rfl) mixed fun E hE => ?_
    repeat' (conv => whnf); first
     | (refine bcase_of (fun hr => ?_) (fun hr => ?_) <;> (try simp at hr) <;> try omega)
     | (apply And.intro; · first | exact Nat.le_of_ble_eq_true rfl | (show indep _ _ = true; kernel_rfl) | decide | exact ⟨by decide, by decide⟩ | exact ⟨Nat.le_of_ble_eq_true rfl, allOne_of rfl⟩)
     | (apply Exists.intro; apply And.intro; · first | exact rfl)
     | fail
    all_goals (conv => whnf)
    refine VLoop.norm [0, 1, 5] [] ?_
    repeat' (conv => whnf); first
     | (apply And.intro; · first | exact Nat.le_of_ble_eq_true rfl | (show indep _ _ = true; kernel_rfl) | decide | exact pure_R _)
     | (apply Exists.intro; apply And.intro; · first | exact rfl)
     | fail
    refine VLoop.inv (fun i : Nat => stS8 p q i) (fun i => i ≤ p.length ∧ p.take i = q.take i) (fun i => p.length - i) 0 ⟨Nat.zero_le _, by simp⟩ rfl ?_
    intro i hi ih
    have hw : IntKind.i64.wrap ((i : Int) + 1) = ((i + 1 : Nat) : Int) := wrap64 (by omega) (by omega)
    refine VLoop.unroll hE mixed ?_
    by_cases hgo : i < p.length
    case neg =>
      have he : p = q := by
        have := hi.2
        rwa [List.take_of_length_le (by omega), List.take_of_length_le (by omega)] at this
      have hd : decide (p = q) = true := by simpa using he
      rw [hd]
      repeat' (conv => whnf); first
       | (refine bcase_of (fun hr => ?_) (fun hr => ?_) <;> (try simp at hr) <;> try omega)
       | (apply And.intro; · first | exact Nat.le_of_ble_eq_true rfl | (show indep _ _ = true; kernel_rfl) | decide | exact ⟨by decide, by decide⟩ | exact ⟨Nat.le_of_ble_eq_true rfl, allOne_of rfl⟩)
       | (apply Exists.intro; apply And.intro; · first | exact rfl)
       | fail
      all_goals (conv => whnf)
      all_goals rfl
    case pos =>
      obtain ⟨x, hx⟩ : ∃ x, p[i]? = some x := ⟨_, List.getElem?_eq_getElem hgo⟩
      obtain ⟨y, hy⟩ : ∃ y, q[i]? = some y := ⟨_, List.getElem?_eq_getElem (by omega)⟩
      have gx := getR hx
      have gy := getR hy
      by_cases hxy : x = y
      case neg =>
        have hd : decide (p = q) = false := by
          simp; intro e; rw [e, hy] at hx; cases hx; exact hxy rfl
        rw [hd]
        have hne : (x.1 == y.1 && (x.2 == y.2 && true)) = false := by
          cases h1 : (x.1 == y.1) with
          | false => rfl
          | true =>
            cases h2 : (x.2 == y.2) with
            | false => rfl
            | true => exact absurd (Prod.ext (by simpa using h1) (by simpa using h2)) hxy
        repeat' (conv => whnf); first
         | (refine bcase_of (fun hr => ?_) (fun hr => ?_) <;> (try simp only [decide_eq_true_eq, decide_eq_false_iff_not] at hr) <;> try (exfalso; first | omega | (rw [hne] at hr; simp at hr; done)))
         | (apply And.intro; · first | exact Nat.le_of_ble_eq_true rfl | (show indep _ _ = true; kernel_rfl) | decide | exact ⟨by omega, by omega⟩ | exact ⟨by decide, by decide⟩ | exact ⟨Nat.le_of_ble_eq_true rfl, allOne_of rfl⟩)
         | (apply Exists.intro; apply And.intro; · first | exact rfl | exact gx | exact gy)
         | fail
        all_goals (conv => whnf)
        all_goals rfl
      case pos =>
        subst hxy
        have hne : (x.1 == x.1 && (x.2 == x.2 && true)) = true := by simp
        repeat' (conv => whnf); first
         | (refine bcase_of (fun hr => ?_) (fun hr => ?_) <;> (try simp only [decide_eq_true_eq, decide_eq_false_iff_not] at hr) <;> try (exfalso; first | omega | (rw [hne] at hr; simp at hr; done)))
         | (apply And.intro; · first | exact Nat.le_of_ble_eq_true rfl | (show indep _ _ = true; kernel_rfl) | decide | exact ⟨by omega, by omega⟩ | exact ⟨by decide, by decide⟩ | exact ⟨Nat.le_of_ble_eq_true rfl, allOne_of rfl⟩)
         | (apply Exists.intro; apply And.intro; · first | exact rfl | exact gx | exact gy)
         | fail
        all_goals (conv => whnf)
        refine VLoop.norm [0, 1, 5] [] ?_
        repeat' (conv => whnf); first
         | (apply And.intro; · first | exact Nat.le_of_ble_eq_true rfl | (show indep _ _ = true; kernel_rfl) | decide | exact pure_R _)
         | (apply Exists.intro; apply And.intro; · first | exact rfl)
         | fail
        rw [hw]
        refine ih (i + 1) ⟨hgo, ?_⟩ (by omega)
        rw [List.take_add_one, List.take_add_one, hi.2, hx, hy]

theorem same9_ok (n a b m c d : Int) (p q r s : List (Int × Int)) (hp : p.length ≤ 100000) (hq : q.length ≤ 100000) (hr : r.length ≤ 100000) (hs : s.length ≤ 100000) :
    PTriple Tryd.prog gv 17 [cellV n a b p q, cellV m c d r s] (.bool (decide (n = m ∧ a = c ∧ b = d ∧ p = r ∧ q = s))) := by
  have c1 := same8_ok p r hp hr
  have c2 := same8_ok q s hq hs
  clear hp hq hr hs
  generalize hu : decide (p = r) = u at c1
  generalize hv : decide (q = s) = v at c2
  have p1 := pure_R p
  have p2 := pure_R q
  have p3 := pure_R r
  have p4 := pure_R s
  cases u <;> cases v
  all_goals refine PTriple.of_body (C := cx) Tryd.func17 rfl (by kernel_rfl) mixed fun E hE => ?_
  all_goals
    repeat' (conv => whnf); first
     | (refine bcase_of (fun hr => ?_) (fun hr => ?_) <;> try (exfalso; simp at hr; done))
     | (apply And.intro; · first | exact Nat.le_of_ble_eq_true rfl | (show indep _ _ = true; kernel_rfl) | decide | exact ⟨by decide, by decide⟩ | exact ⟨Nat.le_of_ble_eq_true rfl, allOne_of rfl⟩ | exact p1 | exact p2 | exact p3 | exact p4)
     | (apply Exists.intro; apply And.intro; · first | exact rfl | exact c1 | exact c2)
     | refine VLoop.unroll hE mixed ?_
     | fail
  all_goals (conv => whnf)
  all_goals clear c1 c2 p1 p2 p3 p4
  all_goals (show V.bool _ = V.bool _; congr 1; simp_all)
def lightB (p q : List (Int × Int)) : Bool := decide (p.length ≤ 60) && decide (q.length ≤ 60)
theorem lightB_ok (n a b : Int) (p q : List (Int × Int)) : PTriple Tryd.prog gv 23 [cellV n a b p q] (.bool (lightB p q)) := by
  have p1 := pure_R p
  have p2 := pure_R q
  have lp := lenR p
  have lq := lenR q
  refine PTriple.of_body (C := cx) Tryd.func23 rfl (by kernel_rfl) mixed fun E hE => ?_
  repeat' (conv => whnf); first
   | (refine bcase_of (fun hr => ?_) (fun hr => ?_) <;> try (exfalso; simp at hr; done))
   | (apply And.intro; · first | exact Nat.le_of_ble_eq_true rfl | (show indep _ _ = true; kernel_rfl) | decide | exact ⟨by decide, by decide⟩ | exact ⟨Nat.le_of_ble_eq_true rfl, allOne_of rfl⟩ | exact p1 | exact p2)
   | (apply Exists.intro; apply And.intro; · first | exact rfl)
   | refine VLoop.unroll hE mixed ?_
   | fail
  all_goals (conv => whnf)
  all_goals rw [lp, lq] at hr
  · have h3 : decide ((if (q.length : Int) > (if (p.length : Int) > 0 then (p.length : Int) else 0) then (q.length : Int) else (if (p.length : Int) > 0 then (p.length : Int) else 0)) ≤ 60) = true := hr
    simp only [decide_eq_true_eq] at h3
    show V.bool true = V.bool (lightB p q)
    congr 1; symm
    simp only [lightB, Bool.and_eq_true, decide_eq_true_eq]
    split at h3 <;> split at h3 <;> omega
  · have h3 : decide ((if (q.length : Int) > (if (p.length : Int) > 0 then (p.length : Int) else 0) then (q.length : Int) else (if (p.length : Int) > 0 then (p.length : Int) else 0)) ≤ 60) = false := hr
    simp only [decide_eq_false_iff_not] at h3
    show V.bool false = V.bool (lightB p q)
    congr 1; symm
    rw [Bool.eq_false_iff]
    simp only [lightB, ne_eq, Bool.and_eq_true, decide_eq_true_eq]
    intro hc
    split at h3 <;> split at h3 <;> omega
def lightL (l : List En) : Bool := decide (l.length ≤ 20) && l.all fun e => lightB e.p e.q
def stLi (l : List En) (i : Nat) : St DV := mkSt 20 [(0, chV l), (3, i64V i)] [] []
theorem lightL_ok (l : List En) : PTriple Tryd.prog gv 11 [chV l] (.bool (lightL l)) := by
  have pl := pure_E l
  have ll := lenE l
  by_cases hlen : l.length ≤ 20
  case neg =>
    have hd : lightL l = false := by simp [lightL, hlen]
    rw [hd]
    refine PTriple.of_body (C := cx) Tryd.func11 rfl (by kernel_rfl) mixed fun E hE => ?_
    repeat' (conv => whnf); first
     | (refine bcase_of (fun hr => ?_) (fun hr => ?_) <;> (try simp at hr) <;> try omega)
     | (apply And.intro; · first | exact Nat.le_of_ble_eq_true rfl | (show indep _ _ = true; kernel_rfl) | decide | exact ⟨by decide, by decide⟩ | exact ⟨Nat.le_of_ble_eq_true rfl, allOne_of rfl⟩)
     | (apply Exists.intro; apply And.intro; · first | exact rfl)
     | fail
    all_goals (conv => whnf)
    all_goals rfl
  case pos =>
    refine PTriple.of_body (C := cx) Tryd.func11 rfl (by kernel_rfl) mixed fun E hE => ?_
    repeat' (conv => whnf); first
     | (refine bcase_of (fun hr => ?_) (fun hr => ?_) <;> (try simp at hr) <;> try omega)
     | (apply And.intro; · first | exact Nat.le_of_ble_eq_true rfl | (show indep _ _ = true; kernel_rfl) | decide | exact ⟨by decide, by decide⟩ | exact ⟨Nat.le_of_ble_eq_true rfl, allOne_of rfl⟩)
     | (apply Exists.intro; apply And.intro; · first | exact rfl)
     | fail
    all_goals (conv => whnf)
    refine VLoop.norm [0, 3] [] ?_
    repeat' (conv => whnf); first
     | (apply And.intro; · first | exact Nat.le_of_ble_eq_true rfl | (show indep _ _ = true; kernel_rfl) | decide | exact pl)
     | (apply Exists.intro; apply And.intro; · first | exact rfl)
     | fail
    refine VLoop.inv (fun i : Nat => stLi l i) (fun i => i ≤ l.length ∧ (l.take i).all (fun e => lightB e.p e.q) = true) (fun i => l.length - i) 0 ⟨Nat.zero_le _, by simp⟩ rfl ?_
    intro i hi ih
    have hw : IntKind.i64.wrap ((i : Int) + 1) = ((i + 1 : Nat) : Int) := wrap64 (by omega) (by omega)
    refine VLoop.unroll hE mixed ?_
    by_cases hgo : i < l.length
    case neg =>
      have hd : lightL l = true := by
        have := hi.2
        rw [List.take_of_length_le (by omega)] at this
        simp [lightL, hlen, this]
      rw [hd]
      repeat' (conv => whnf); first
       | (refine bcase_of (fun hr => ?_) (fun hr => ?_) <;> (try simp at hr) <;> try omega)
       | (apply And.intro; · first | exact Nat.le_of_ble_eq_true rfl | (show indep _ _ = true; kernel_rfl) | decide | exact ⟨by decide, by decide⟩ | exact ⟨Nat.le_of_ble_eq_true rfl, allOne_of rfl⟩)
       | (apply Exists.intro; apply And.intro; · first | exact rfl)
       | fail
      all_goals (conv => whnf)
      all_goals rfl
    case pos =>
      obtain ⟨x, hx⟩ : ∃ x, l[i]? = some x := ⟨_, List.getElem?_eq_getElem hgo⟩
      have gx := getE hx
      have c1 := lightB_ok x.n x.a x.b x.p x.q
      have px := pure_R x.p
      have pq := pure_R x.q
      cases hb : lightB x.p x.q with
      | false =>
        rw [hb] at c1
        have hd : lightL l = false := by
          have : ¬ (l.all fun e => lightB e.p e.q) = true := fun h => by
            have := List.all_eq_true.1 h x (List.mem_of_getElem? hx)
            rw [hb] at this; cases this
          simp only [lightL, Bool.eq_false_iff.2 this, Bool.and_false]
        rw [hd]
        repeat' (conv => whnf); first
         | (refine bcase_of (fun hr => ?_) (fun hr => ?_) <;> (try simp at hr) <;> try omega)
         | (apply And.intro; · first | exact Nat.le_of_ble_eq_true rfl | (show indep _ _ = true; kernel_rfl) | decide | exact ⟨by omega, by omega⟩ | exact px | exact pq | exact ⟨by decide, by decide⟩ | exact ⟨Nat.le_of_ble_eq_true rfl, allOne_of rfl⟩)
         | (apply Exists.intro; apply And.intro; · first | exact rfl | exact c1 | exact gx)
         | fail
        all_goals (conv => whnf)
        all_goals rfl
      | true =>
        rw [hb] at c1
        repeat' (conv => whnf); first
         | (refine bcase_of (fun hr => ?_) (fun hr => ?_) <;> (try simp at hr) <;> try omega)
         | (apply And.intro; · first | exact Nat.le_of_ble_eq_true rfl | (show indep _ _ = true; kernel_rfl) | decide | exact ⟨by omega, by omega⟩ | exact px | exact pq | exact ⟨by decide, by decide⟩ | exact ⟨Nat.le_of_ble_eq_true rfl, allOne_of rfl⟩)
         | (apply Exists.intro; apply And.intro; · first | exact rfl | exact c1 | exact gx)
         | fail
        all_goals (conv => whnf)
        refine VLoop.norm [0, 3] [] ?_
        repeat' (conv => whnf); first
         | (apply And.intro; · first | exact Nat.le_of_ble_eq_true rfl | (show indep _ _ = true; kernel_rfl) | decide | exact pl)
         | (apply Exists.intro; apply And.intro; · first | exact rfl)
         | fail
        rw [hw]
        refine ih (i + 1) ⟨hgo, ?_⟩ (by omega)
        rw [List.take_add_one, List.all_append, hi.2, hx]
        simp [hb]
theorem En.eq_of {x y : En} (h : x.v = y.v ∧ x.o = y.o ∧ (x.n = y.n ∧ x.a = y.a ∧ x.b = y.b ∧ x.p = y.p ∧ x.q = y.q)) : x = y := by
  cases x; cases y; simp_all
def stS13 (k l : List En) (i : Nat) : St DV := mkSt 55 [(0, chV k), (1, chV l), (5, i64V i)] [] []
theorem same13_ok (k l : List En) (hk : ∀ e ∈ k, EnOk e) (hl : ∀ e ∈ l, EnOk e) (hk0 : k.length ≤ 100000) : PTriple Tryd.prog gv 18 [chV k, chV l] (.bool (decide (k = l))) := by
  have pk := pure_E k
  have pl := pure_E l
  have lk := lenE k
  have ll := lenE l
  by_cases hlen : k.length = l.length
  case neg =>
    have hd : decide (k = l) = false := by simp; intro e; exact hlen (by rw [e])
    rw [hd]
    refine PTriple.of_body (C := cx) Tryd.func18 rfl (by kernel_rfl) mixed fun E hE => ?_
    repeat' (conv => whnf); first
     | (refine bcase_of (fun hr => ?_) (fun hr => ?_) <;> (try simp at hr) <;> try omega)
     | (apply And.intro; · first | exact Nat.le_of_ble_eq_true rfl | (show indep _ _ = true; kernel_rfl) | decide | exact ⟨by decide, by decide⟩ | exact ⟨Nat.le_of_ble_eq_true rfl, allOne_of rfl⟩)
     | (apply Exists.intro; apply And.intro; · first | exact rfl)
     | fail
    all_goals (conv => whnf)
    all_goals rfl
  case pos =>
    refine PTriple.of_body (C := cx) Tryd.func18 rfl (by kernel_rfl) mixed fun E hE => ?_
    repeat' (conv => whnf); first
     | (refine bcase_of (fun hr => ?_) (fun hr => ?_) <;> (try simp at hr) <;> try omega)
     | (apply And.intro; · first | exact Nat.le_of_ble_eq_true rfl | (show indep _ _ = true; kernel_rfl) | decide | exact ⟨by decide, by decide⟩ | exact ⟨Nat.le_of_ble_eq_true rfl, allOne_of rfl⟩)
     | (apply Exists.intro; apply And.intro; · first | exact rfl)
     | fail
    all_goals (conv => whnf)
    refine VLoop.norm [0, 1, 5] [] ?_
    repeat' (conv => whnf); first
     | (apply And.intro; · first | exact Nat.le_of_ble_eq_true rfl | (show indep _ _ = true; kernel_rfl) | decide | exact pk | exact pl)
     | (apply Exists.intro; apply And.intro; · first | exact rfl)
     | fail
    refine VLoop.inv (fun i : Nat => stS13 k l i) (fun i => i ≤ k.length ∧ k.take i = l.take i) (fun i => k.length - i) 0 ⟨Nat.zero_le _, by simp⟩ rfl ?_
    intro i hi ih
    have hw : IntKind.i64.wrap ((i : Int) + 1) = ((i + 1 : Nat) : Int) := wrap64 (by omega) (by omega)
    refine VLoop.unroll hE mixed ?_
    by_cases hgo : i < k.length
    case neg =>
      have he : k = l := by
        have := hi.2
        rwa [List.take_of_length_le (by omega), List.take_of_length_le (by omega)] at this
      have hd : decide (k = l) = true := by simpa using he
      rw [hd]
      repeat' (conv => whnf); first
       | (refine bcase_of (fun hr => ?_) (fun hr => ?_) <;> (try simp at hr) <;> try omega)
       | (apply And.intro; · first | exact Nat.le_of_ble_eq_true rfl | (show indep _ _ = true; kernel_rfl) | decide | exact ⟨by decide, by decide⟩ | exact ⟨Nat.le_of_ble_eq_true rfl, allOne_of rfl⟩)
       | (apply Exists.intro; apply And.intro; · first | exact rfl)
       | fail
      all_goals (conv => whnf)
      all_goals rfl
    case pos =>
      obtain ⟨x, hx⟩ : ∃ x, k[i]? = some x := ⟨_, List.getElem?_eq_getElem hgo⟩
      obtain ⟨y, hy⟩ : ∃ y, l[i]? = some y := ⟨_, List.getElem?_eq_getElem (by omega)⟩
      have gx := getE hx
      have gy := getE hy
      have ox := hk x (List.mem_of_getElem? hx)
      have oy := hl y (List.mem_of_getElem? hy)
      have c1 := same9_ok x.n x.a x.b y.n y.a y.b x.p x.q y.p y.q ox.1 ox.2 oy.1 oy.2
      have q1 := pure_R x.p
      have q2 := pure_R x.q
      have q3 := pure_R y.p
      have q4 := pure_R y.q
      by_cases hxy : x = y
      case neg =>
        have hd : decide (k = l) = false := by
          simp; intro e; rw [e, hy] at hx; cases hx; exact hxy rfl
        rw [hd]
        have hn : ¬ (x.v = y.v ∧ x.o = y.o ∧ (x.n = y.n ∧ x.a = y.a ∧ x.b = y.b ∧ x.p = y.p ∧ x.q = y.q)) := fun h => hxy (En.eq_of h)
        generalize hu : decide (x.n = y.n ∧ x.a = y.a ∧ x.b = y.b ∧ x.p = y.p ∧ x.q = y.q) = u at c1
        cases u with
        | false =>
          repeat' (conv => whnf); first
           | (refine bcase_of (fun hr => ?_) (fun hr => ?_) <;> (try simp only [decide_eq_true_eq, decide_eq_false_iff_not] at hr) <;> try (exfalso; first | omega | (simp at hr; done)))
           | (apply And.intro; · first | exact Nat.le_of_ble_eq_true rfl | (show indep _ _ = true; kernel_rfl) | decide | exact ⟨by omega, by omega⟩ | exact q1 | exact q2 | exact q3 | exact q4 | exact ⟨by decide, by decide⟩ | exact ⟨Nat.le_of_ble_eq_true rfl, allOne_of rfl⟩)
           | (apply Exists.intro; apply And.intro; · first | exact rfl | exact c1 | exact gx | exact gy)
           | fail
          all_goals (conv => whnf)
          all_goals rfl
        | true =>
          simp only [decide_eq_true_eq] at hu
          have hn2 : ¬ (x.v = y.v ∧ x.o = y.o) := fun h => hn ⟨h.1, h.2, hu⟩
          repeat' (conv => whnf); first
           | (refine bcase_of (fun hr => ?_) (fun hr => ?_) <;> (try simp only [decide_eq_true_eq, decide_eq_false_iff_not, bne_eq_false_iff_eq] at hr) <;> try (exfalso; first | omega | (simp at hr; done)))
           | (apply And.intro; · first | exact Nat.le_of_ble_eq_true rfl | (show indep _ _ = true; kernel_rfl) | decide | exact ⟨by omega, by omega⟩ | exact q1 | exact q2 | exact q3 | exact q4 | exact ⟨by decide, by decide⟩ | exact ⟨Nat.le_of_ble_eq_true rfl, allOne_of rfl⟩)
           | (apply Exists.intro; apply And.intro; · first | exact rfl | exact c1 | exact gx | exact gy)
           | fail
          all_goals (conv => whnf)
          all_goals rfl
      case pos =>
        subst hxy
        have hu : decide (x.n = x.n ∧ x.a = x.a ∧ x.b = x.b ∧ x.p = x.p ∧ x.q = x.q) = true := by simp
        rw [hu] at c1
        repeat' (conv => whnf); first
         | (refine bcase_of (fun hr => ?_) (fun hr => ?_) <;> (try simp only [decide_eq_true_eq, decide_eq_false_iff_not] at hr) <;> try (exfalso; first | omega | (simp at hr; done)))
         | (apply And.intro; · first | exact Nat.le_of_ble_eq_true rfl | (show indep _ _ = true; kernel_rfl) | decide | exact ⟨by omega, by omega⟩ | exact q1 | exact q2 | exact q3 | exact q4 | exact ⟨by decide, by decide⟩ | exact ⟨Nat.le_of_ble_eq_true rfl, allOne_of rfl⟩)
         | (apply Exists.intro; apply And.intro; · first | exact rfl | exact c1 | exact gx | exact gy)
         | fail
        all_goals (conv => whnf)
        refine VLoop.norm [0, 1, 5] [] ?_
        repeat' (conv => whnf); first
         | (apply And.intro; · first | exact Nat.le_of_ble_eq_true rfl | (show indep _ _ = true; kernel_rfl) | decide | exact pk | exact pl)
         | (apply Exists.intro; apply And.intro; · first | exact rfl)
         | fail
        rw [hw]
        refine ih (i + 1) ⟨hgo, ?_⟩ (by omega)
        rw [List.take_add_one, List.take_add_one, hi.2, hx, hy]

end Go.Proofs.YtbppemcdphgknaaDoor
