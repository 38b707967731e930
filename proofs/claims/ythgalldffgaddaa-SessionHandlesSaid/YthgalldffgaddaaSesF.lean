/- Chapter 24: what its functions come to (SesF). -/
import Derived.Test.YthgalldffgaddaaSesD
set_option linter.unusedVariables false
set_option linter.unusedSimpArgs false
namespace Go.Proofs.Ythgalldffgaddaa
open Go Go.Vm
set_option maxRecDepth 100000
set_option maxHeartbeats 4000000
set_option linter.unusedSimpArgs false
def stF (k l n : Int) (a b c d e f : Plc) (p t i : Int) : St Empty := mkSt 31 [(0, .ref (0, 0) 0), (3, .ref (4, 1) 0), (8, i64V i)] [(3, .box [i64V p, i64V t])] [some (.box (cells k l n a b c d e f))]
theorem find_none (k l n : Int) (a b c d e f : Plc) (p t : Int) (h0 : a.opn = true → ¬ (p = 0 ∧ t = a.turn)) (h1 : b.opn = true → ¬ (p = 1 ∧ t = b.turn)) (h2 : c.opn = true → ¬ (p = 2 ∧ t = c.turn)) (h3 : d.opn = true → ¬ (p = 3 ∧ t = d.turn)) (h4 : e.opn = true → ¬ (p = 4 ∧ t = e.turn)) (h5 : f.opn = true → ¬ (p = 5 ∧ t = f.turn)) : ATriple Try.prog gv noRep 26 [.ref (0, 0) 0, hdl p t] [.box (cells k l n a b c d e f)] (.nilp) [.box (cells k l n a b c d e f)] none := by
  refine ATriple.of_body (C := cx) Try.func26 rfl (by kernel_rfl) mixed rfl (by simp [okA, okC, okN]) (by simp [okOb, okC, okN, cells, plc]) (by simp [okG, okA, okC, okN]) (by simp [okOb, okC, okN, cells, plc]) (fun o ho => by cases ho) fun E hE => ?_
  repeat' (conv => whnf); first
   | (refine bcase_of (fun hr => ?_) (fun hr => ?_) <;> (try simp only [decide_eq_true_eq, decide_eq_false_iff_not, gt_iff_lt] at hr) <;> try (exfalso; omega))
   | (refine And.intro (by first | exact Nat.le_of_ble_eq_true rfl | decide) ?_)
   | (refine And.intro (by show indep _ _ = true; kernel_rfl) ?_)
   | (refine Exists.intro _ (And.intro (by first | exact rfl) ?_))
   | fail
  all_goals (conv => whnf)
  refine VLoop.norm [0, 3, 8] [3] ?_
  conv => whnf
  refine VLoop.inv (fun i : Int => stF k l n a b c d e f p t i) (fun i => 0 ≤ i ∧ i ≤ 6) (fun i => (6 - i).toNat) 0 (by decide) rfl ?_
  rintro i ⟨q1, q2⟩ ih
  have hi : i = 0 ∨ i = 1 ∨ i = 2 ∨ i = 3 ∨ i = 4 ∨ i = 5 ∨ i = 6 := by omega
  rcases hi with rfl | rfl | rfl | rfl | rfl | rfl | rfl
  all_goals (show VLoop cx E _ (stF k l n a b c d e f p t _) _)
  all_goals refine VLoop.unroll hE mixed ?_
  all_goals
    repeat' (conv => whnf); first
     | (refine bcase_of (fun hr => ?_) (fun hr => ?_) <;> (try simp only [decide_eq_true_eq, decide_eq_false_iff_not, gt_iff_lt, Bool.and_eq_true, beq_iff_eq, and_true] at hr) <;> try (exfalso; clear ih; first | omega | (simp_all; done)))
     | (refine And.intro (by first | exact Nat.le_of_ble_eq_true rfl | decide | exact ⟨(by decide : (0 : Int) ≤ 0), (by decide : (0 : Int) < 6)⟩ | exact ⟨(by decide : (0 : Int) ≤ 1), (by decide : (1 : Int) < 6)⟩ | exact ⟨(by decide : (0 : Int) ≤ 2), (by decide : (2 : Int) < 6)⟩ | exact ⟨(by decide : (0 : Int) ≤ 3), (by decide : (3 : Int) < 6)⟩ | exact ⟨(by decide : (0 : Int) ≤ 4), (by decide : (4 : Int) < 6)⟩ | exact ⟨(by decide : (0 : Int) ≤ 5), (by decide : (5 : Int) < 6)⟩) ?_)
     | (refine And.intro (by show indep _ _ = true; kernel_rfl) ?_)
     | (refine Exists.intro _ (And.intro (by first | exact rfl) ?_))
     | refine ⟨_, _, _, ATriple.call (handle_0 k l n a b c d e f) (by rfl) (by rfl) (by rfl), ?_⟩
     | refine ⟨_, _, _, ATriple.call (handle_1 k l n a b c d e f) (by rfl) (by rfl) (by rfl), ?_⟩
     | refine ⟨_, _, _, ATriple.call (handle_2 k l n a b c d e f) (by rfl) (by rfl) (by rfl), ?_⟩
     | refine ⟨_, _, _, ATriple.call (handle_3 k l n a b c d e f) (by rfl) (by rfl) (by rfl), ?_⟩
     | refine ⟨_, _, _, ATriple.call (handle_4 k l n a b c d e f) (by rfl) (by rfl) (by rfl), ?_⟩
     | refine ⟨_, _, _, ATriple.call (handle_5 k l n a b c d e f) (by rfl) (by rfl) (by rfl), ?_⟩
     | fail
  all_goals (conv => whnf)
  all_goals first
    | exact ⟨rfl, rfl⟩
    | refine VLoop.norm [0, 3, 8] [3] ?_
  all_goals (conv => whnf)
  all_goals try (refine ih (IntKind.i64.wrap (0 + 1)) ?_ ?_ <;> decide)
  all_goals try (refine ih (IntKind.i64.wrap (1 + 1)) ?_ ?_ <;> decide)
  all_goals try (refine ih (IntKind.i64.wrap (2 + 1)) ?_ ?_ <;> decide)
  all_goals try (refine ih (IntKind.i64.wrap (3 + 1)) ?_ ?_ <;> decide)
  all_goals try (refine ih (IntKind.i64.wrap (4 + 1)) ?_ ?_ <;> decide)
  all_goals try (refine ih (IntKind.i64.wrap (5 + 1)) ?_ ?_ <;> decide)
theorem find_at0 (k l n : Int) (a b c d e f : Plc) (p t : Int) (ho : a.opn = true) (hp : p = 0) (ht : t = a.turn) : ATriple Try.prog gv noRep 26 [.ref (0, 0) 0, hdl p t] [.box (cells k l n a b c d e f)] (.ref (0, 0) 3) [.box (cells k l n a b c d e f)] none := by
  refine ATriple.of_body (C := cx) Try.func26 rfl (by kernel_rfl) mixed rfl (by simp [okA, okC, okN]) (by simp [okOb, okC, okN, cells, plc]) (by simp [okG, okA, okC, okN]) (by simp [okOb, okC, okN, cells, plc]) (fun o ho => by cases ho) fun E hE => ?_
  repeat' (conv => whnf); first
   | (refine bcase_of (fun hr => ?_) (fun hr => ?_) <;> (try simp only [decide_eq_true_eq, decide_eq_false_iff_not, gt_iff_lt] at hr) <;> try (exfalso; omega))
   | (refine And.intro (by first | exact Nat.le_of_ble_eq_true rfl | decide) ?_)
   | (refine And.intro (by show indep _ _ = true; kernel_rfl) ?_)
   | (refine Exists.intro _ (And.intro (by first | exact rfl) ?_))
   | fail
  all_goals (conv => whnf)
  refine VLoop.norm [0, 3, 8] [3] ?_
  conv => whnf
  refine VLoop.inv (fun i : Int => stF k l n a b c d e f p t i) (fun i => 0 ≤ i ∧ i ≤ 0) (fun i => (0 - i).toNat) 0 (by decide) rfl ?_
  rintro i ⟨q1, q2⟩ ih
  have hi : i = 0 := by omega
  rcases hi with rfl
  all_goals (show VLoop cx E _ (stF k l n a b c d e f p t _) _)
  all_goals refine VLoop.unroll hE mixed ?_
  all_goals
    repeat' (conv => whnf); first
     | (refine bcase_of (fun hr => ?_) (fun hr => ?_) <;> (try simp only [decide_eq_true_eq, decide_eq_false_iff_not, gt_iff_lt, Bool.and_eq_true, beq_iff_eq, and_true] at hr) <;> try (exfalso; clear ih; first | omega | (simp_all; done)))
     | (refine And.intro (by first | exact Nat.le_of_ble_eq_true rfl | decide | exact ⟨(by decide : (0 : Int) ≤ 0), (by decide : (0 : Int) < 6)⟩ | exact ⟨(by decide : (0 : Int) ≤ 1), (by decide : (1 : Int) < 6)⟩ | exact ⟨(by decide : (0 : Int) ≤ 2), (by decide : (2 : Int) < 6)⟩ | exact ⟨(by decide : (0 : Int) ≤ 3), (by decide : (3 : Int) < 6)⟩ | exact ⟨(by decide : (0 : Int) ≤ 4), (by decide : (4 : Int) < 6)⟩ | exact ⟨(by decide : (0 : Int) ≤ 5), (by decide : (5 : Int) < 6)⟩) ?_)
     | (refine And.intro (by show indep _ _ = true; kernel_rfl) ?_)
     | (refine Exists.intro _ (And.intro (by first | exact rfl) ?_))
     | refine ⟨_, _, _, ATriple.call (handle_0 k l n a b c d e f) (by rfl) (by rfl) (by rfl), ?_⟩
     | refine ⟨_, _, _, ATriple.call (handle_1 k l n a b c d e f) (by rfl) (by rfl) (by rfl), ?_⟩
     | refine ⟨_, _, _, ATriple.call (handle_2 k l n a b c d e f) (by rfl) (by rfl) (by rfl), ?_⟩
     | refine ⟨_, _, _, ATriple.call (handle_3 k l n a b c d e f) (by rfl) (by rfl) (by rfl), ?_⟩
     | refine ⟨_, _, _, ATriple.call (handle_4 k l n a b c d e f) (by rfl) (by rfl) (by rfl), ?_⟩
     | refine ⟨_, _, _, ATriple.call (handle_5 k l n a b c d e f) (by rfl) (by rfl) (by rfl), ?_⟩
     | fail
  all_goals (conv => whnf)
  all_goals first
    | exact ⟨rfl, rfl⟩
    | refine VLoop.norm [0, 3, 8] [3] ?_
  all_goals (conv => whnf)
theorem find_at1 (k l n : Int) (a b c d e f : Plc) (p t : Int) (ho : b.opn = true) (hp : p = 1) (ht : t = b.turn) : ATriple Try.prog gv noRep 26 [.ref (0, 0) 0, hdl p t] [.box (cells k l n a b c d e f)] (.ref (0, 0) 7) [.box (cells k l n a b c d e f)] none := by
  refine ATriple.of_body (C := cx) Try.func26 rfl (by kernel_rfl) mixed rfl (by simp [okA, okC, okN]) (by simp [okOb, okC, okN, cells, plc]) (by simp [okG, okA, okC, okN]) (by simp [okOb, okC, okN, cells, plc]) (fun o ho => by cases ho) fun E hE => ?_
  repeat' (conv => whnf); first
   | (refine bcase_of (fun hr => ?_) (fun hr => ?_) <;> (try simp only [decide_eq_true_eq, decide_eq_false_iff_not, gt_iff_lt] at hr) <;> try (exfalso; omega))
   | (refine And.intro (by first | exact Nat.le_of_ble_eq_true rfl | decide) ?_)
   | (refine And.intro (by show indep _ _ = true; kernel_rfl) ?_)
   | (refine Exists.intro _ (And.intro (by first | exact rfl) ?_))
   | fail
  all_goals (conv => whnf)
  refine VLoop.norm [0, 3, 8] [3] ?_
  conv => whnf
  refine VLoop.inv (fun i : Int => stF k l n a b c d e f p t i) (fun i => 0 ≤ i ∧ i ≤ 1) (fun i => (1 - i).toNat) 0 (by decide) rfl ?_
  rintro i ⟨q1, q2⟩ ih
  have hi : i = 0 ∨ i = 1 := by omega
  rcases hi with rfl | rfl
  all_goals (show VLoop cx E _ (stF k l n a b c d e f p t _) _)
  all_goals refine VLoop.unroll hE mixed ?_
  all_goals
    repeat' (conv => whnf); first
     | (refine bcase_of (fun hr => ?_) (fun hr => ?_) <;> (try simp only [decide_eq_true_eq, decide_eq_false_iff_not, gt_iff_lt, Bool.and_eq_true, beq_iff_eq, and_true] at hr) <;> try (exfalso; clear ih; first | omega | (simp_all; done)))
     | (refine And.intro (by first | exact Nat.le_of_ble_eq_true rfl | decide | exact ⟨(by decide : (0 : Int) ≤ 0), (by decide : (0 : Int) < 6)⟩ | exact ⟨(by decide : (0 : Int) ≤ 1), (by decide : (1 : Int) < 6)⟩ | exact ⟨(by decide : (0 : Int) ≤ 2), (by decide : (2 : Int) < 6)⟩ | exact ⟨(by decide : (0 : Int) ≤ 3), (by decide : (3 : Int) < 6)⟩ | exact ⟨(by decide : (0 : Int) ≤ 4), (by decide : (4 : Int) < 6)⟩ | exact ⟨(by decide : (0 : Int) ≤ 5), (by decide : (5 : Int) < 6)⟩) ?_)
     | (refine And.intro (by show indep _ _ = true; kernel_rfl) ?_)
     | (refine Exists.intro _ (And.intro (by first | exact rfl) ?_))
     | refine ⟨_, _, _, ATriple.call (handle_0 k l n a b c d e f) (by rfl) (by rfl) (by rfl), ?_⟩
     | refine ⟨_, _, _, ATriple.call (handle_1 k l n a b c d e f) (by rfl) (by rfl) (by rfl), ?_⟩
     | refine ⟨_, _, _, ATriple.call (handle_2 k l n a b c d e f) (by rfl) (by rfl) (by rfl), ?_⟩
     | refine ⟨_, _, _, ATriple.call (handle_3 k l n a b c d e f) (by rfl) (by rfl) (by rfl), ?_⟩
     | refine ⟨_, _, _, ATriple.call (handle_4 k l n a b c d e f) (by rfl) (by rfl) (by rfl), ?_⟩
     | refine ⟨_, _, _, ATriple.call (handle_5 k l n a b c d e f) (by rfl) (by rfl) (by rfl), ?_⟩
     | fail
  all_goals (conv => whnf)
  all_goals first
    | exact ⟨rfl, rfl⟩
    | refine VLoop.norm [0, 3, 8] [3] ?_
  all_goals (conv => whnf)
  all_goals try (refine ih (IntKind.i64.wrap (0 + 1)) ?_ ?_ <;> decide)
theorem find_at2 (k l n : Int) (a b c d e f : Plc) (p t : Int) (ho : c.opn = true) (hp : p = 2) (ht : t = c.turn) : ATriple Try.prog gv noRep 26 [.ref (0, 0) 0, hdl p t] [.box (cells k l n a b c d e f)] (.ref (0, 0) 11) [.box (cells k l n a b c d e f)] none := by
  refine ATriple.of_body (C := cx) Try.func26 rfl (by kernel_rfl) mixed rfl (by simp [okA, okC, okN]) (by simp [okOb, okC, okN, cells, plc]) (by simp [okG, okA, okC, okN]) (by simp [okOb, okC, okN, cells, plc]) (fun o ho => by cases ho) fun E hE => ?_
  repeat' (conv => whnf); first
   | (refine bcase_of (fun hr => ?_) (fun hr => ?_) <;> (try simp only [decide_eq_true_eq, decide_eq_false_iff_not, gt_iff_lt] at hr) <;> try (exfalso; omega))
   | (refine And.intro (by first | exact Nat.le_of_ble_eq_true rfl | decide) ?_)
   | (refine And.intro (by show indep _ _ = true; kernel_rfl) ?_)
   | (refine Exists.intro _ (And.intro (by first | exact rfl) ?_))
   | fail
  all_goals (conv => whnf)
  refine VLoop.norm [0, 3, 8] [3] ?_
  conv => whnf
  refine VLoop.inv (fun i : Int => stF k l n a b c d e f p t i) (fun i => 0 ≤ i ∧ i ≤ 2) (fun i => (2 - i).toNat) 0 (by decide) rfl ?_
  rintro i ⟨q1, q2⟩ ih
  have hi : i = 0 ∨ i = 1 ∨ i = 2 := by omega
  rcases hi with rfl | rfl | rfl
  all_goals (show VLoop cx E _ (stF k l n a b c d e f p t _) _)
  all_goals refine VLoop.unroll hE mixed ?_
  all_goals
    repeat' (conv => whnf); first
     | (refine bcase_of (fun hr => ?_) (fun hr => ?_) <;> (try simp only [decide_eq_true_eq, decide_eq_false_iff_not, gt_iff_lt, Bool.and_eq_true, beq_iff_eq, and_true] at hr) <;> try (exfalso; clear ih; first | omega | (simp_all; done)))
     | (refine And.intro (by first | exact Nat.le_of_ble_eq_true rfl | decide | exact ⟨(by decide : (0 : Int) ≤ 0), (by decide : (0 : Int) < 6)⟩ | exact ⟨(by decide : (0 : Int) ≤ 1), (by decide : (1 : Int) < 6)⟩ | exact ⟨(by decide : (0 : Int) ≤ 2), (by decide : (2 : Int) < 6)⟩ | exact ⟨(by decide : (0 : Int) ≤ 3), (by decide : (3 : Int) < 6)⟩ | exact ⟨(by decide : (0 : Int) ≤ 4), (by decide : (4 : Int) < 6)⟩ | exact ⟨(by decide : (0 : Int) ≤ 5), (by decide : (5 : Int) < 6)⟩) ?_)
     | (refine And.intro (by show indep _ _ = true; kernel_rfl) ?_)
     | (refine Exists.intro _ (And.intro (by first | exact rfl) ?_))
     | refine ⟨_, _, _, ATriple.call (handle_0 k l n a b c d e f) (by rfl) (by rfl) (by rfl), ?_⟩
     | refine ⟨_, _, _, ATriple.call (handle_1 k l n a b c d e f) (by rfl) (by rfl) (by rfl), ?_⟩
     | refine ⟨_, _, _, ATriple.call (handle_2 k l n a b c d e f) (by rfl) (by rfl) (by rfl), ?_⟩
     | refine ⟨_, _, _, ATriple.call (handle_3 k l n a b c d e f) (by rfl) (by rfl) (by rfl), ?_⟩
     | refine ⟨_, _, _, ATriple.call (handle_4 k l n a b c d e f) (by rfl) (by rfl) (by rfl), ?_⟩
     | refine ⟨_, _, _, ATriple.call (handle_5 k l n a b c d e f) (by rfl) (by rfl) (by rfl), ?_⟩
     | fail
  all_goals (conv => whnf)
  all_goals first
    | exact ⟨rfl, rfl⟩
    | refine VLoop.norm [0, 3, 8] [3] ?_
  all_goals (conv => whnf)
  all_goals try (refine ih (IntKind.i64.wrap (0 + 1)) ?_ ?_ <;> decide)
  all_goals try (refine ih (IntKind.i64.wrap (1 + 1)) ?_ ?_ <;> decide)
theorem find_at3 (k l n : Int) (a b c d e f : Plc) (p t : Int) (ho : d.opn = true) (hp : p = 3) (ht : t = d.turn) : ATriple Try.prog gv noRep 26 [.ref (0, 0) 0, hdl p t] [.box (cells k l n a b c d e f)] (.ref (0, 0) 15) [.box (cells k l n a b c d e f)] none := by
  refine ATriple.of_body (C := cx) Try.func26 rfl (by kernel_rfl) mixed rfl (by simp [okA, okC, okN]) (by simp [okOb, okC, okN, cells, plc]) (by simp [okG, okA, okC, okN]) (by simp [okOb, okC, okN, cells, plc]) (fun o ho => by cases ho) fun E hE => ?_
  repeat' (conv => whnf); first
   | (refine bcase_of (fun hr => ?_) (fun hr => ?_) <;> (try simp only [decide_eq_true_eq, decide_eq_false_iff_not, gt_iff_lt] at hr) <;> try (exfalso; omega))
   | (refine And.intro (by first | exact Nat.le_of_ble_eq_true rfl | decide) ?_)
   | (refine And.intro (by show indep _ _ = true; kernel_rfl) ?_)
   | (refine Exists.intro _ (And.intro (by first | exact rfl) ?_))
   | fail
  all_goals (conv => whnf)
  refine VLoop.norm [0, 3, 8] [3] ?_
  conv => whnf
  refine VLoop.inv (fun i : Int => stF k l n a b c d e f p t i) (fun i => 0 ≤ i ∧ i ≤ 3) (fun i => (3 - i).toNat) 0 (by decide) rfl ?_
  rintro i ⟨q1, q2⟩ ih
  have hi : i = 0 ∨ i = 1 ∨ i = 2 ∨ i = 3 := by omega
  rcases hi with rfl | rfl | rfl | rfl
  all_goals (show VLoop cx E _ (stF k l n a b c d e f p t _) _)
  all_goals refine VLoop.unroll hE mixed ?_
  all_goals
    repeat' (conv => whnf); first
     | (refine bcase_of (fun hr => ?_) (fun hr => ?_) <;> (try simp only [decide_eq_true_eq, decide_eq_false_iff_not, gt_iff_lt, Bool.and_eq_true, beq_iff_eq, and_true] at hr) <;> try (exfalso; clear ih; first | omega | (simp_all; done)))
     | (refine And.intro (by first | exact Nat.le_of_ble_eq_true rfl | decide | exact ⟨(by decide : (0 : Int) ≤ 0), (by decide : (0 : Int) < 6)⟩ | exact ⟨(by decide : (0 : Int) ≤ 1), (by decide : (1 : Int) < 6)⟩ | exact ⟨(by decide : (0 : Int) ≤ 2), (by decide : (2 : Int) < 6)⟩ | exact ⟨(by decide : (0 : Int) ≤ 3), (by decide : (3 : Int) < 6)⟩ | exact ⟨(by decide : (0 : Int) ≤ 4), (by decide : (4 : Int) < 6)⟩ | exact ⟨(by decide : (0 : Int) ≤ 5), (by decide : (5 : Int) < 6)⟩) ?_)
     | (refine And.intro (by show indep _ _ = true; kernel_rfl) ?_)
     | (refine Exists.intro _ (And.intro (by first | exact rfl) ?_))
     | refine ⟨_, _, _, ATriple.call (handle_0 k l n a b c d e f) (by rfl) (by rfl) (by rfl), ?_⟩
     | refine ⟨_, _, _, ATriple.call (handle_1 k l n a b c d e f) (by rfl) (by rfl) (by rfl), ?_⟩
     | refine ⟨_, _, _, ATriple.call (handle_2 k l n a b c d e f) (by rfl) (by rfl) (by rfl), ?_⟩
     | refine ⟨_, _, _, ATriple.call (handle_3 k l n a b c d e f) (by rfl) (by rfl) (by rfl), ?_⟩
     | refine ⟨_, _, _, ATriple.call (handle_4 k l n a b c d e f) (by rfl) (by rfl) (by rfl), ?_⟩
     | refine ⟨_, _, _, ATriple.call (handle_5 k l n a b c d e f) (by rfl) (by rfl) (by rfl), ?_⟩
     | fail
  all_goals (conv => whnf)
  all_goals first
    | exact ⟨rfl, rfl⟩
    | refine VLoop.norm [0, 3, 8] [3] ?_
  all_goals (conv => whnf)
  all_goals try (refine ih (IntKind.i64.wrap (0 + 1)) ?_ ?_ <;> decide)
  all_goals try (refine ih (IntKind.i64.wrap (1 + 1)) ?_ ?_ <;> decide)
  all_goals try (refine ih (IntKind.i64.wrap (2 + 1)) ?_ ?_ <;> decide)
theorem find_at4 (k l n : Int) (a b c d e f : Plc) (p t : Int) (ho : e.opn = true) (hp : p = 4) (ht : t = e.turn) : ATriple Try.prog gv noRep 26 [.ref (0, 0) 0, hdl p t] [.box (cells k l n a b c d e f)] (.ref (0, 0) 19) [.box (cells k l n a b c d e f)] none := by
  refine ATriple.of_body (C := cx) Try.func26 rfl (by kernel_rfl) mixed rfl (by simp [okA, okC, okN]) (by simp [okOb, okC, okN, cells, plc]) (by simp [okG, okA, okC, okN]) (by simp [okOb, okC, okN, cells, plc]) (fun o ho => by cases ho) fun E hE => ?_
  repeat' (conv => whnf); first
   | (refine bcase_of (fun hr => ?_) (fun hr => ?_) <;> (try simp only [decide_eq_true_eq, decide_eq_false_iff_not, gt_iff_lt] at hr) <;> try (exfalso; omega))
   | (refine And.intro (by first | exact Nat.le_of_ble_eq_true rfl | decide) ?_)
   | (refine And.intro (by show indep _ _ = true; kernel_rfl) ?_)
   | (refine Exists.intro _ (And.intro (by first | exact rfl) ?_))
   | fail
  all_goals (conv => whnf)
  refine VLoop.norm [0, 3, 8] [3] ?_
  conv => whnf
  refine VLoop.inv (fun i : Int => stF k l n a b c d e f p t i) (fun i => 0 ≤ i ∧ i ≤ 4) (fun i => (4 - i).toNat) 0 (by decide) rfl ?_
  rintro i ⟨q1, q2⟩ ih
  have hi : i = 0 ∨ i = 1 ∨ i = 2 ∨ i = 3 ∨ i = 4 := by omega
  rcases hi with rfl | rfl | rfl | rfl | rfl
  all_goals (show VLoop cx E _ (stF k l n a b c d e f p t _) _)
  all_goals refine VLoop.unroll hE mixed ?_
  all_goals
    repeat' (conv => whnf); first
     | (refine bcase_of (fun hr => ?_) (fun hr => ?_) <;> (try simp only [decide_eq_true_eq, decide_eq_false_iff_not, gt_iff_lt, Bool.and_eq_true, beq_iff_eq, and_true] at hr) <;> try (exfalso; clear ih; first | omega | (simp_all; done)))
     | (refine And.intro (by first | exact Nat.le_of_ble_eq_true rfl | decide | exact ⟨(by decide : (0 : Int) ≤ 0), (by decide : (0 : Int) < 6)⟩ | exact ⟨(by decide : (0 : Int) ≤ 1), (by decide : (1 : Int) < 6)⟩ | exact ⟨(by decide : (0 : Int) ≤ 2), (by decide : (2 : Int) < 6)⟩ | exact ⟨(by decide : (0 : Int) ≤ 3), (by decide : (3 : Int) < 6)⟩ | exact ⟨(by decide : (0 : Int) ≤ 4), (by decide : (4 : Int) < 6)⟩ | exact ⟨(by decide : (0 : Int) ≤ 5), (by decide : (5 : Int) < 6)⟩) ?_)
     | (refine And.intro (by show indep _ _ = true; kernel_rfl) ?_)
     | (refine Exists.intro _ (And.intro (by first | exact rfl) ?_))
     | refine ⟨_, _, _, ATriple.call (handle_0 k l n a b c d e f) (by rfl) (by rfl) (by rfl), ?_⟩
     | refine ⟨_, _, _, ATriple.call (handle_1 k l n a b c d e f) (by rfl) (by rfl) (by rfl), ?_⟩
     | refine ⟨_, _, _, ATriple.call (handle_2 k l n a b c d e f) (by rfl) (by rfl) (by rfl), ?_⟩
     | refine ⟨_, _, _, ATriple.call (handle_3 k l n a b c d e f) (by rfl) (by rfl) (by rfl), ?_⟩
     | refine ⟨_, _, _, ATriple.call (handle_4 k l n a b c d e f) (by rfl) (by rfl) (by rfl), ?_⟩
     | refine ⟨_, _, _, ATriple.call (handle_5 k l n a b c d e f) (by rfl) (by rfl) (by rfl), ?_⟩
     | fail
  all_goals (conv => whnf)
  all_goals first
    | exact ⟨rfl, rfl⟩
    | refine VLoop.norm [0, 3, 8] [3] ?_
  all_goals (conv => whnf)
  all_goals try (refine ih (IntKind.i64.wrap (0 + 1)) ?_ ?_ <;> decide)
  all_goals try (refine ih (IntKind.i64.wrap (1 + 1)) ?_ ?_ <;> decide)
  all_goals try (refine ih (IntKind.i64.wrap (2 + 1)) ?_ ?_ <;> decide)
  all_goals try (refine ih (IntKind.i64.wrap (3 + 1)) ?_ ?_ <;> decide)
theorem find_at5 (k l n : Int) (a b c d e f : Plc) (p t : Int) (ho : f.opn = true) (hp : p = 5) (ht : t = f.turn) : ATriple Try.prog gv noRep 26 [.ref (0, 0) 0, hdl p t] [.box (cells k l n a b c d e f)] (.ref (0, 0) 23) [.box (cells k l n a b c d e f)] none := by
  refine ATriple.of_body (C := cx) Try.func26 rfl (by kernel_rfl) mixed rfl (by simp [okA, okC, okN]) (by simp [okOb, okC, okN, cells, plc]) (by simp [okG, okA, okC, okN]) (by simp [okOb, okC, okN, cells, plc]) (fun o ho => by cases ho) fun E hE => ?_
  repeat' (conv => whnf); first
   | (refine bcase_of (fun hr => ?_) (fun hr => ?_) <;> (try simp only [decide_eq_true_eq, decide_eq_false_iff_not, gt_iff_lt] at hr) <;> try (exfalso; omega))
   | (refine And.intro (by first | exact Nat.le_of_ble_eq_true rfl | decide) ?_)
   | (refine And.intro (by show indep _ _ = true; kernel_rfl) ?_)
   | (refine Exists.intro _ (And.intro (by first | exact rfl) ?_))
   | fail
  all_goals (conv => whnf)
  refine VLoop.norm [0, 3, 8] [3] ?_
  conv => whnf
  refine VLoop.inv (fun i : Int => stF k l n a b c d e f p t i) (fun i => 0 ≤ i ∧ i ≤ 5) (fun i => (5 - i).toNat) 0 (by decide) rfl ?_
  rintro i ⟨q1, q2⟩ ih
  have hi : i = 0 ∨ i = 1 ∨ i = 2 ∨ i = 3 ∨ i = 4 ∨ i = 5 := by omega
  rcases hi with rfl | rfl | rfl | rfl | rfl | rfl
  all_goals (show VLoop cx E _ (stF k l n a b c d e f p t _) _)
  all_goals refine VLoop.unroll hE mixed ?_
  all_goals
    repeat' (conv => whnf); first
     | (refine bcase_of (fun hr => ?_) (fun hr => ?_) <;> (try simp only [decide_eq_true_eq, decide_eq_false_iff_not, gt_iff_lt, Bool.and_eq_true, beq_iff_eq, and_true] at hr) <;> try (exfalso; clear ih; first | omega | (simp_all; done)))
     | (refine And.intro (by first | exact Nat.le_of_ble_eq_true rfl | decide | exact ⟨(by decide : (0 : Int) ≤ 0), (by decide : (0 : Int) < 6)⟩ | exact ⟨(by decide : (0 : Int) ≤ 1), (by decide : (1 : Int) < 6)⟩ | exact ⟨(by decide : (0 : Int) ≤ 2), (by decide : (2 : Int) < 6)⟩ | exact ⟨(by decide : (0 : Int) ≤ 3), (by decide : (3 : Int) < 6)⟩ | exact ⟨(by decide : (0 : Int) ≤ 4), (by decide : (4 : Int) < 6)⟩ | exact ⟨(by decide : (0 : Int) ≤ 5), (by decide : (5 : Int) < 6)⟩) ?_)
     | (refine And.intro (by show indep _ _ = true; kernel_rfl) ?_)
     | (refine Exists.intro _ (And.intro (by first | exact rfl) ?_))
     | refine ⟨_, _, _, ATriple.call (handle_0 k l n a b c d e f) (by rfl) (by rfl) (by rfl), ?_⟩
     | refine ⟨_, _, _, ATriple.call (handle_1 k l n a b c d e f) (by rfl) (by rfl) (by rfl), ?_⟩
     | refine ⟨_, _, _, ATriple.call (handle_2 k l n a b c d e f) (by rfl) (by rfl) (by rfl), ?_⟩
     | refine ⟨_, _, _, ATriple.call (handle_3 k l n a b c d e f) (by rfl) (by rfl) (by rfl), ?_⟩
     | refine ⟨_, _, _, ATriple.call (handle_4 k l n a b c d e f) (by rfl) (by rfl) (by rfl), ?_⟩
     | refine ⟨_, _, _, ATriple.call (handle_5 k l n a b c d e f) (by rfl) (by rfl) (by rfl), ?_⟩
     | fail
  all_goals (conv => whnf)
  all_goals first
    | exact ⟨rfl, rfl⟩
    | refine VLoop.norm [0, 3, 8] [3] ?_
  all_goals (conv => whnf)
  all_goals try (refine ih (IntKind.i64.wrap (0 + 1)) ?_ ?_ <;> decide)
  all_goals try (refine ih (IntKind.i64.wrap (1 + 1)) ?_ ?_ <;> decide)
  all_goals try (refine ih (IntKind.i64.wrap (2 + 1)) ?_ ?_ <;> decide)
  all_goals try (refine ih (IntKind.i64.wrap (3 + 1)) ?_ ?_ <;> decide)
  all_goals try (refine ih (IntKind.i64.wrap (4 + 1)) ?_ ?_ <;> decide)
end Go.Proofs.Ythgalldffgaddaa
