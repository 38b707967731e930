/- A part of the proofs over the seat YtbpfkofokglogaaDoor. -/
import Derived.Test.YtbpfkofokglogaaDoorTagCx
set_option linter.unusedVariables false
set_option linter.unusedSimpArgs false
namespace Go.Proofs.YtbpfkofokglogaaDoor
open Go Go.Vm
set_option maxRecDepth 100000
set_option linter.unusedSimpArgs false

def known (n : Int) : Bool := decide (n = 1 ∨ n = 2 ∨ n = 3)
def was (n : Int) : Bool := decide (n = 2 ∨ n = 3)
def is (n : Int) : Bool := decide (n = 1 ∨ n = 2)
def rowOp (n : Int) : Int := if n = 1 ∨ n = 2 ∨ n = 3 then n else 0
def ofV (w i : Bool) : Int := match w, i with
  | false, false => 0
  | false, true => 1
  | true, true => 2
  | true, false => 3
def thenV (a b : Int) : Int × Bool :=
  if (a ≠ 0 ∧ known a = false) ∨ (b ≠ 0 ∧ known b = false) then (0, false)
  else if a = 0 then (b, true)
  else if b = 0 then (a, true)
  else if is a = was b then (ofV (was a) (is b), true)
  else (0, false)
abbrev int1 (n : Int) : V := .int .i64 n
abbrev pair (x : Int × Bool) : V := .tup [.int .i64 x.1, .bool x.2]
abbrev pairA (x : Int × Bool) : V := .agg [.int .i64 x.1, .bool x.2]

theorem ok21 (n : Int) : PTriple Tryd.prog gv 21 [int1 n] (.tup [.agg [.int .i64 (rowOp n), .bool (was n), .bool (is n)], .bool (known n)]) := by
  refine PTriple.of_body (C := cx) Tryd.func21 rfl (by kernel_rfl) mixed fun E hE => ?_
  repeat' (conv => whnf); first
   | refine ⟨_, rfl, ?_⟩
   | refine ⟨by first | decide | exact Nat.le_of_ble_eq_true rfl | omega, ?_⟩
   | refine VLoop.unroll hE mixed ?_
   | (refine bcase_of (fun h => ?_) (fun h => ?_) <;> have hr := h <;> (try simp only [known, was, is, beq_iff_eq, beq_eq_false_iff_ne, bne_iff_ne, bne_eq_false_iff_eq, decide_eq_true_eq, decide_eq_false_iff_not, ne_eq] at h) <;> try (exfalso; first | omega | contradiction))
  all_goals (conv => whnf)
  all_goals (try simp only [retOf, pair, pairA, V.tup.injEq, V.agg.injEq, List.cons.injEq, V.int.injEq, V.bool.injEq, true_and, and_true])
  all_goals first
   | rfl
   | omega
   | ((repeat' apply And.intro) <;> first | rfl | omega | (simp only [rowOp]; split <;> omega) | (simp [known, was, is]; done) | (simp [known, was, is]; omega))
theorem ok7 (n : Int) : PTriple Tryd.prog gv 7 [int1 n] (.bool (known n)) := by
  refine PTriple.of_body (C := cx) Tryd.func7 rfl (by kernel_rfl) mixed fun E hE => ?_
  repeat' (conv => whnf); first
   | refine ⟨_, rfl, ?_⟩
   | refine ⟨by first | decide | exact Nat.le_of_ble_eq_true rfl | omega, ?_⟩
   | refine ⟨_, ok21 _, ?_⟩
   | refine VLoop.unroll hE mixed ?_
   | (refine bcase_of (fun h => ?_) (fun h => ?_) <;> have hr := h <;> (try simp only [known, was, is, beq_iff_eq, beq_eq_false_iff_ne, bne_iff_ne, bne_eq_false_iff_eq, decide_eq_true_eq, decide_eq_false_iff_not, ne_eq] at h) <;> try (exfalso; first | omega | contradiction))
  all_goals (conv => whnf)
  all_goals (try simp only [retOf, pair, pairA, V.tup.injEq, V.agg.injEq, List.cons.injEq, V.int.injEq, V.bool.injEq, true_and, and_true])
  all_goals first
   | rfl
   | omega
   | ((repeat' apply And.intro) <;> first | rfl | omega | (simp only [rowOp]; split <;> omega) | (simp [known, was, is]; done) | (simp [known, was, is]; omega))
theorem ok9 (n : Int) : PTriple Tryd.prog gv 9 [int1 n] (.bool (was n)) := by
  refine PTriple.of_body (C := cx) Tryd.func9 rfl (by kernel_rfl) mixed fun E hE => ?_
  repeat' (conv => whnf); first
   | refine ⟨_, rfl, ?_⟩
   | refine ⟨by first | decide | exact Nat.le_of_ble_eq_true rfl | omega, ?_⟩
   | refine ⟨_, ok21 _, ?_⟩
   | refine VLoop.unroll hE mixed ?_
   | (refine bcase_of (fun h => ?_) (fun h => ?_) <;> have hr := h <;> (try simp only [known, was, is, beq_iff_eq, beq_eq_false_iff_ne, bne_iff_ne, bne_eq_false_iff_eq, decide_eq_true_eq, decide_eq_false_iff_not, ne_eq] at h) <;> try (exfalso; first | omega | contradiction))
  all_goals (conv => whnf)
  all_goals (try simp only [retOf, pair, pairA, V.tup.injEq, V.agg.injEq, List.cons.injEq, V.int.injEq, V.bool.injEq, true_and, and_true])
  all_goals first
   | rfl
   | omega
   | ((repeat' apply And.intro) <;> first | rfl | omega | (simp only [rowOp]; split <;> omega) | (simp [known, was, is]; done) | (simp [known, was, is]; omega))
theorem ok11 (n : Int) : PTriple Tryd.prog gv 11 [int1 n] (.bool (is n)) := by
  refine PTriple.of_body (C := cx) Tryd.func11 rfl (by kernel_rfl) mixed fun E hE => ?_
  repeat' (conv => whnf); first
   | refine ⟨_, rfl, ?_⟩
   | refine ⟨by first | decide | exact Nat.le_of_ble_eq_true rfl | omega, ?_⟩
   | refine ⟨_, ok21 _, ?_⟩
   | refine VLoop.unroll hE mixed ?_
   | (refine bcase_of (fun h => ?_) (fun h => ?_) <;> have hr := h <;> (try simp only [known, was, is, beq_iff_eq, beq_eq_false_iff_ne, bne_iff_ne, bne_eq_false_iff_eq, decide_eq_true_eq, decide_eq_false_iff_not, ne_eq] at h) <;> try (exfalso; first | omega | contradiction))
  all_goals (conv => whnf)
  all_goals (try simp only [retOf, pair, pairA, V.tup.injEq, V.agg.injEq, List.cons.injEq, V.int.injEq, V.bool.injEq, true_and, and_true])
  all_goals first
   | rfl
   | omega
   | ((repeat' apply And.intro) <;> first | rfl | omega | (simp only [rowOp]; split <;> omega) | (simp [known, was, is]; done) | (simp [known, was, is]; omega))
theorem ok15ff : PTriple Tryd.prog gv 15 [.bool false, .bool false] (.int .i64 (ofV false false)) := by
  refine PTriple.of_body (C := cx) Tryd.func15 rfl (by kernel_rfl) mixed fun E hE => ?_
  repeat' (conv => whnf); first
   | refine ⟨_, rfl, ?_⟩
   | refine ⟨by first | decide | exact Nat.le_of_ble_eq_true rfl | omega, ?_⟩
   | refine VLoop.unroll hE mixed ?_
   | (refine bcase_of (fun h => ?_) (fun h => ?_) <;> have hr := h <;> (try simp only [known, was, is, beq_iff_eq, beq_eq_false_iff_ne, bne_iff_ne, bne_eq_false_iff_eq, decide_eq_true_eq, decide_eq_false_iff_not, ne_eq] at h) <;> try (exfalso; first | omega | contradiction))
  all_goals (conv => whnf)
  all_goals (try simp only [retOf, pair, pairA, V.tup.injEq, V.agg.injEq, List.cons.injEq, V.int.injEq, V.bool.injEq, true_and, and_true])
  all_goals first
   | rfl
   | omega
   | ((repeat' apply And.intro) <;> first | rfl | omega | (simp only [rowOp]; split <;> omega) | (simp [known, was, is]; done) | (simp [known, was, is]; omega))
theorem ok15ft : PTriple Tryd.prog gv 15 [.bool false, .bool true] (.int .i64 (ofV false true)) := by
  refine PTriple.of_body (C := cx) Tryd.func15 rfl (by kernel_rfl) mixed fun E hE => ?_
  repeat' (conv => whnf); first
   | refine ⟨_, rfl, ?_⟩
   | refine ⟨by first | decide | exact Nat.le_of_ble_eq_true rfl | omega, ?_⟩
   | refine VLoop.unroll hE mixed ?_
   | (refine bcase_of (fun h => ?_) (fun h => ?_) <;> have hr := h <;> (try simp only [known, was, is, beq_iff_eq, beq_eq_false_iff_ne, bne_iff_ne, bne_eq_false_iff_eq, decide_eq_true_eq, decide_eq_false_iff_not, ne_eq] at h) <;> try (exfalso; first | omega | contradiction))
  all_goals (conv => whnf)
  all_goals (try simp only [retOf, pair, pairA, V.tup.injEq, V.agg.injEq, List.cons.injEq, V.int.injEq, V.bool.injEq, true_and, and_true])
  all_goals first
   | rfl
   | omega
   | ((repeat' apply And.intro) <;> first | rfl | omega | (simp only [rowOp]; split <;> omega) | (simp [known, was, is]; done) | (simp [known, was, is]; omega))
theorem ok15tf : PTriple Tryd.prog gv 15 [.bool true, .bool false] (.int .i64 (ofV true false)) := by
  refine PTriple.of_body (C := cx) Tryd.func15 rfl (by kernel_rfl) mixed fun E hE => ?_
  repeat' (conv => whnf); first
   | refine ⟨_, rfl, ?_⟩
   | refine ⟨by first | decide | exact Nat.le_of_ble_eq_true rfl | omega, ?_⟩
   | refine VLoop.unroll hE mixed ?_
   | (refine bcase_of (fun h => ?_) (fun h => ?_) <;> have hr := h <;> (try simp only [known, was, is, beq_iff_eq, beq_eq_false_iff_ne, bne_iff_ne, bne_eq_false_iff_eq, decide_eq_true_eq, decide_eq_false_iff_not, ne_eq] at h) <;> try (exfalso; first | omega | contradiction))
  all_goals (conv => whnf)
  all_goals (try simp only [retOf, pair, pairA, V.tup.injEq, V.agg.injEq, List.cons.injEq, V.int.injEq, V.bool.injEq, true_and, and_true])
  all_goals first
   | rfl
   | omega
   | ((repeat' apply And.intro) <;> first | rfl | omega | (simp only [rowOp]; split <;> omega) | (simp [known, was, is]; done) | (simp [known, was, is]; omega))
theorem ok15tt : PTriple Tryd.prog gv 15 [.bool true, .bool true] (.int .i64 (ofV true true)) := by
  refine PTriple.of_body (C := cx) Tryd.func15 rfl (by kernel_rfl) mixed fun E hE => ?_
  repeat' (conv => whnf); first
   | refine ⟨_, rfl, ?_⟩
   | refine ⟨by first | decide | exact Nat.le_of_ble_eq_true rfl | omega, ?_⟩
   | refine VLoop.unroll hE mixed ?_
   | (refine bcase_of (fun h => ?_) (fun h => ?_) <;> have hr := h <;> (try simp only [known, was, is, beq_iff_eq, beq_eq_false_iff_ne, bne_iff_ne, bne_eq_false_iff_eq, decide_eq_true_eq, decide_eq_false_iff_not, ne_eq] at h) <;> try (exfalso; first | omega | contradiction))
  all_goals (conv => whnf)
  all_goals (try simp only [retOf, pair, pairA, V.tup.injEq, V.agg.injEq, List.cons.injEq, V.int.injEq, V.bool.injEq, true_and, and_true])
  all_goals first
   | rfl
   | omega
   | ((repeat' apply And.intro) <;> first | rfl | omega | (simp only [rowOp]; split <;> omega) | (simp [known, was, is]; done) | (simp [known, was, is]; omega))
theorem ok15 : ∀ w i : Bool, PTriple Tryd.prog gv 15 [.bool w, .bool i] (.int .i64 (ofV w i))
  | false, false => ok15ff
  | false, true => ok15ft
  | true, false => ok15tf
  | true, true => ok15tt
theorem ok8 (n : Int) : PTriple Tryd.prog gv 8 [int1 n] (.bool (known n)) := by
  refine PTriple.of_body (C := cx) Tryd.func8 rfl (by kernel_rfl) mixed fun E hE => ?_
  repeat' (conv => whnf); first
   | refine ⟨_, rfl, ?_⟩
   | refine ⟨by first | decide | exact Nat.le_of_ble_eq_true rfl | omega, ?_⟩
   | refine VLoop.unroll hE mixed ?_
   | (refine bcase_of (fun h => ?_) (fun h => ?_) <;> have hr := h <;> (try simp only [known, was, is, beq_iff_eq, beq_eq_false_iff_ne, bne_iff_ne, bne_eq_false_iff_eq, decide_eq_true_eq, decide_eq_false_iff_not, ne_eq] at h) <;> try (exfalso; first | omega | contradiction))
  all_goals (conv => whnf)
  all_goals (try simp only [retOf, pair, pairA, V.tup.injEq, V.agg.injEq, List.cons.injEq, V.int.injEq, V.bool.injEq, true_and, and_true])
  all_goals first
   | rfl
   | omega
   | ((repeat' apply And.intro) <;> first | rfl | omega | (simp only [rowOp]; split <;> omega) | (simp [known, was, is]; done) | (simp [known, was, is]; omega))
theorem ok10 (n : Int) : PTriple Tryd.prog gv 10 [int1 n] (.bool (was n)) := by
  refine PTriple.of_body (C := cx) Tryd.func10 rfl (by kernel_rfl) mixed fun E hE => ?_
  repeat' (conv => whnf); first
   | refine ⟨_, rfl, ?_⟩
   | refine ⟨by first | decide | exact Nat.le_of_ble_eq_true rfl | omega, ?_⟩
   | refine VLoop.unroll hE mixed ?_
   | (refine bcase_of (fun h => ?_) (fun h => ?_) <;> have hr := h <;> (try simp only [known, was, is, beq_iff_eq, beq_eq_false_iff_ne, bne_iff_ne, bne_eq_false_iff_eq, decide_eq_true_eq, decide_eq_false_iff_not, ne_eq] at h) <;> try (exfalso; first | omega | contradiction))
  all_goals (conv => whnf)
  all_goals (try simp only [retOf, pair, pairA, V.tup.injEq, V.agg.injEq, List.cons.injEq, V.int.injEq, V.bool.injEq, true_and, and_true])
  all_goals first
   | rfl
   | omega
   | ((repeat' apply And.intro) <;> first | rfl | omega | (simp only [rowOp]; split <;> omega) | (simp [known, was, is]; done) | (simp [known, was, is]; omega))
theorem ok12 (n : Int) : PTriple Tryd.prog gv 12 [int1 n] (.bool (is n)) := by
  refine PTriple.of_body (C := cx) Tryd.func12 rfl (by kernel_rfl) mixed fun E hE => ?_
  repeat' (conv => whnf); first
   | refine ⟨_, rfl, ?_⟩
   | refine ⟨by first | decide | exact Nat.le_of_ble_eq_true rfl | omega, ?_⟩
   | refine VLoop.unroll hE mixed ?_
   | (refine bcase_of (fun h => ?_) (fun h => ?_) <;> have hr := h <;> (try simp only [known, was, is, beq_iff_eq, beq_eq_false_iff_ne, bne_iff_ne, bne_eq_false_iff_eq, decide_eq_true_eq, decide_eq_false_iff_not, ne_eq] at h) <;> try (exfalso; first | omega | contradiction))
  all_goals (conv => whnf)
  all_goals (try simp only [retOf, pair, pairA, V.tup.injEq, V.agg.injEq, List.cons.injEq, V.int.injEq, V.bool.injEq, true_and, and_true])
  all_goals first
   | rfl
   | omega
   | ((repeat' apply And.intro) <;> first | rfl | omega | (simp only [rowOp]; split <;> omega) | (simp [known, was, is]; done) | (simp [known, was, is]; omega))
theorem ok16ff : PTriple Tryd.prog gv 16 [.bool false, .bool false] (.int .i64 (ofV false false)) := by
  refine PTriple.of_body (C := cx) Tryd.func16 rfl (by kernel_rfl) mixed fun E hE => ?_
  repeat' (conv => whnf); first
   | refine ⟨_, rfl, ?_⟩
   | refine ⟨by first | decide | exact Nat.le_of_ble_eq_true rfl | omega, ?_⟩
   | refine VLoop.unroll hE mixed ?_
   | (refine bcase_of (fun h => ?_) (fun h => ?_) <;> have hr := h <;> (try simp only [known, was, is, beq_iff_eq, beq_eq_false_iff_ne, bne_iff_ne, bne_eq_false_iff_eq, decide_eq_true_eq, decide_eq_false_iff_not, ne_eq] at h) <;> try (exfalso; first | omega | contradiction))
  all_goals (conv => whnf)
  all_goals (try simp only [retOf, pair, pairA, V.tup.injEq, V.agg.injEq, List.cons.injEq, V.int.injEq, V.bool.injEq, true_and, and_true])
  all_goals first
   | rfl
   | omega
   | ((repeat' apply And.intro) <;> first | rfl | omega | (simp only [rowOp]; split <;> omega) | (simp [known, was, is]; done) | (simp [known, was, is]; omega))
theorem ok16ft : PTriple Tryd.prog gv 16 [.bool false, .bool true] (.int .i64 (ofV false true)) := by
  refine PTriple.of_body (C := cx) Tryd.func16 rfl (by kernel_rfl) mixed fun E hE => ?_
  repeat' (conv => whnf); first
   | refine ⟨_, rfl, ?_⟩
   | refine ⟨by first | decide | exact Nat.le_of_ble_eq_true rfl | omega, ?_⟩
   | refine VLoop.unroll hE mixed ?_
   | (refine bcase_of (fun h => ?_) (fun h => ?_) <;> have hr := h <;> (try simp only [known, was, is, beq_iff_eq, beq_eq_false_iff_ne, bne_iff_ne, bne_eq_false_iff_eq, decide_eq_true_eq, decide_eq_false_iff_not, ne_eq] at h) <;> try (exfalso; first | omega | contradiction))
  all_goals (conv => whnf)
  all_goals (try simp only [retOf, pair, pairA, V.tup.injEq, V.agg.injEq, List.cons.injEq, V.int.injEq, V.bool.injEq, true_and, and_true])
  all_goals first
   | rfl
   | omega
   | ((repeat' apply And.intro) <;> first | rfl | omega | (simp only [rowOp]; split <;> omega) | (simp [known, was, is]; done) | (simp [known, was, is]; omega))
theorem ok16tf : PTriple Tryd.prog gv 16 [.bool true, .bool false] (.int .i64 (ofV true false)) := by
  refine PTriple.of_body (C := cx) Tryd.func16 rfl (by kernel_rfl) mixed fun E hE => ?_
  repeat' (conv => whnf); first
   | refine ⟨_, rfl, ?_⟩
   | refine ⟨by first | decide | exact Nat.le_of_ble_eq_true rfl | omega, ?_⟩
   | refine VLoop.unroll hE mixed ?_
   | (refine bcase_of (fun h => ?_) (fun h => ?_) <;> have hr := h <;> (try simp only [known, was, is, beq_iff_eq, beq_eq_false_iff_ne, bne_iff_ne, bne_eq_false_iff_eq, decide_eq_true_eq, decide_eq_false_iff_not, ne_eq] at h) <;> try (exfalso; first | omega | contradiction))
  all_goals (conv => whnf)
  all_goals (try simp only [retOf, pair, pairA, V.tup.injEq, V.agg.injEq, List.cons.injEq, V.int.injEq, V.bool.injEq, true_and, and_true])
  all_goals first
   | rfl
   | omega
   | ((repeat' apply And.intro) <;> first | rfl | omega | (simp only [rowOp]; split <;> omega) | (simp [known, was, is]; done) | (simp [known, was, is]; omega))
theorem ok16tt : PTriple Tryd.prog gv 16 [.bool true, .bool true] (.int .i64 (ofV true true)) := by
  refine PTriple.of_body (C := cx) Tryd.func16 rfl (by kernel_rfl) mixed fun E hE => ?_
  repeat' (conv => whnf); first
   | refine ⟨_, rfl, ?_⟩
   | refine ⟨by first | decide | exact Nat.le_of_ble_eq_true rfl | omega, ?_⟩
   | refine VLoop.unroll hE mixed ?_
   | (refine bcase_of (fun h => ?_) (fun h => ?_) <;> have hr := h <;> (try simp only [known, was, is, beq_iff_eq, beq_eq_false_iff_ne, bne_iff_ne, bne_eq_false_iff_eq, decide_eq_true_eq, decide_eq_false_iff_not, ne_eq] at h) <;> try (exfalso; first | omega | contradiction))
  all_goals (conv => whnf)
  all_goals (try simp only [retOf, pair, pairA, V.tup.injEq, V.agg.injEq, List.cons.injEq, V.int.injEq, V.bool.injEq, true_and, and_true])
  all_goals first
   | rfl
   | omega
   | ((repeat' apply And.intro) <;> first | rfl | omega | (simp only [rowOp]; split <;> omega) | (simp [known, was, is]; done) | (simp [known, was, is]; omega))
theorem ok16 : ∀ w i : Bool, PTriple Tryd.prog gv 16 [.bool w, .bool i] (.int .i64 (ofV w i))
  | false, false => ok16ff
  | false, true => ok16ft
  | true, false => ok16tf
  | true, true => ok16tt
theorem ok13 (a b : Int) : PTriple Tryd.prog gv 13 [int1 a, int1 b] (pair (thenV a b)) := by
  refine PTriple.of_body (C := cx) Tryd.func13 rfl (by kernel_rfl) mixed fun E hE => ?_
  repeat' (conv => whnf); first
   | refine ⟨_, rfl, ?_⟩
   | refine ⟨by first | decide | exact Nat.le_of_ble_eq_true rfl | omega, ?_⟩
   | refine ⟨_, ok7 _, ?_⟩
   | refine ⟨_, ok9 _, ?_⟩
   | refine ⟨_, ok11 _, ?_⟩
   | refine ⟨_, ok15 _ _, ?_⟩
   | refine VLoop.unroll hE mixed ?_
   | (refine bcase_of (fun h => ?_) (fun h => ?_) <;> have hr := h <;> (try simp only [known, was, is, beq_iff_eq, beq_eq_false_iff_ne, bne_iff_ne, bne_eq_false_iff_eq, decide_eq_true_eq, decide_eq_false_iff_not, ne_eq] at h) <;> try (exfalso; first | omega | contradiction))
  all_goals (conv => whnf)
  all_goals (try simp only [retOf, pair, pairA, V.tup.injEq, V.agg.injEq, List.cons.injEq, V.int.injEq, V.bool.injEq, true_and, and_true])
  all_goals (simp only [thenV, known, was, is, ne_eq, decide_eq_false_iff_not, decide_eq_decide])
  all_goals ((repeat' split) <;> first | omega | (refine ⟨?_, ?_⟩ <;> first | rfl | omega) | (simp_all [ofV]; done))
theorem ok14 (a b : Int) : PTriple Tryd.prog gv 14 [int1 a, int1 b] (pairA (thenV a b)) := by
  refine PTriple.of_body (C := cx) Tryd.func14 rfl (by kernel_rfl) mixed fun E hE => ?_
  repeat' (conv => whnf); first
   | refine ⟨_, rfl, ?_⟩
   | refine ⟨by first | decide | exact Nat.le_of_ble_eq_true rfl | omega, ?_⟩
   | refine ⟨_, ok8 _, ?_⟩
   | refine ⟨_, ok10 _, ?_⟩
   | refine ⟨_, ok12 _, ?_⟩
   | refine ⟨_, ok16 _ _, ?_⟩
   | refine VLoop.unroll hE mixed ?_
   | (refine bcase_of (fun h => ?_) (fun h => ?_) <;> have hr := h <;> (try simp only [known, was, is, beq_iff_eq, beq_eq_false_iff_ne, bne_iff_ne, bne_eq_false_iff_eq, decide_eq_true_eq, decide_eq_false_iff_not, ne_eq] at h) <;> try (exfalso; first | omega | contradiction))
  all_goals (conv => whnf)
  all_goals (try simp only [retOf, pair, pairA, V.tup.injEq, V.agg.injEq, List.cons.injEq, V.int.injEq, V.bool.injEq, true_and, and_true])
  all_goals (simp only [thenV, known, was, is, ne_eq, decide_eq_false_iff_not, decide_eq_decide])
  all_goals ((repeat' split) <;> first | omega | (refine ⟨?_, ?_⟩ <;> first | rfl | omega) | (simp_all [ofV]; done))
end Go.Proofs.YtbpfkofokglogaaDoor
