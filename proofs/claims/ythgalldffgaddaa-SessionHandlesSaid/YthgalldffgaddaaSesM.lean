/- Chapter 24: what its functions come to (SesM). -/
import Derived.Test.YthgalldffgaddaaSesL
set_option linter.unusedVariables false
set_option linter.unusedSimpArgs false
namespace Go.Proofs.Ythgalldffgaddaa
open Go Go.Vm
set_option maxRecDepth 100000
set_option maxHeartbeats 4000000
set_option linter.unusedSimpArgs false
theorem rclose_n0 (k l n : Int) (a b c d e f : Plc) (t : Int) (hn : (a.opn && (a.turn == t)) = false) : ATriple Try.prog gv noRep 15 [.ref (0, 0) 0, hdl 0 t] [.box (rcells k l n a b c d e f)] (i64V 11) [.box (rcells k l n a b c d e f)] (none) := by
  refine ATriple.of_body (C := cx) Try.func15 rfl (by kernel_rfl) mixed rfl (by simp [okA, okC, okN]) (by simp [okOb, okC, okN, rcells]) (by simp [okG, okA, okC, okN]) (by simp [okOb, okC, okN, rcells]) (fun o ho => by cases ho) fun E hE => ?_
  repeat' (conv => whnf); first
   | (refine bcase_of (fun hr => ?_) (fun hr => ?_) <;> (try simp only [decide_eq_true_eq, decide_eq_false_iff_not, gt_iff_lt, ge_iff_le, beq_iff_eq, beq_eq_false_iff_ne, ne_eq] at hr) <;> try (exfalso; first | omega | (simp_all; done)))
   | (refine And.intro (by first | exact Nat.le_of_ble_eq_true rfl | decide | decide | exact ⟨(by decide : (0 : Int) ≤ 0), (by decide : (0 : Int) < 6)⟩ | exact ⟨(by decide : (0 : Int) ≤ 1), (by decide : (1 : Int) < 6)⟩ | exact ⟨(by decide : (0 : Int) ≤ 2), (by decide : (2 : Int) < 6)⟩ | exact ⟨(by decide : (0 : Int) ≤ 3), (by decide : (3 : Int) < 6)⟩ | exact ⟨(by decide : (0 : Int) ≤ 4), (by decide : (4 : Int) < 6)⟩ | exact ⟨(by decide : (0 : Int) ≤ 5), (by decide : (5 : Int) < 6)⟩) ?_)
   | (refine And.intro (by show indep _ _ = true; kernel_rfl) ?_)
   | (refine Exists.intro _ (And.intro (by first | exact rfl) ?_))
   | refine ⟨_, _, _, ATriple.call (rhas_0 k l n a b c d e f t) (by rfl) (by rfl) (by rfl), ?_⟩
   | fail
  all_goals (conv => whnf)
  all_goals exact ⟨rfl, rfl⟩
theorem rover_0 (k l n : Int) (a b c d e f : Plc) (t dn : Int) : ATriple Try.prog gv noRep 28 [.ref (0, 0) 0, hdl 0 t, i64V dn] [.box (rcells k l n a b c d e f)] (.bool (decide ((a.ver ≤ dn ∧ k ≤ IntKind.i64.wrap (dn - a.ver)) ∨ a.till < n))) [.box (rcells k l n a b c d e f)] (none) := by
  refine ATriple.of_body (C := cx) Try.func28 rfl (by kernel_rfl) mixed rfl (by simp [okA, okC, okN]) (by simp [okOb, okC, okN, rcells]) (by simp [okG, okA, okC, okN]) (by simp [okOb, okC, okN, rcells]) (fun o ho => by cases ho) fun E hE => ?_
  repeat' (conv => whnf); first
   | (refine bcase_of (fun hr => ?_) (fun hr => ?_) <;> (try simp only [decide_eq_true_eq, decide_eq_false_iff_not, gt_iff_lt, ge_iff_le, beq_iff_eq, beq_eq_false_iff_ne, ne_eq] at hr) <;> try (exfalso; first | omega | (simp_all; done)))
   | (refine And.intro (by first | exact Nat.le_of_ble_eq_true rfl | decide | decide | exact ⟨(by decide : (0 : Int) ≤ 0), (by decide : (0 : Int) < 6)⟩ | exact ⟨(by decide : (0 : Int) ≤ 1), (by decide : (1 : Int) < 6)⟩ | exact ⟨(by decide : (0 : Int) ≤ 2), (by decide : (2 : Int) < 6)⟩ | exact ⟨(by decide : (0 : Int) ≤ 3), (by decide : (3 : Int) < 6)⟩ | exact ⟨(by decide : (0 : Int) ≤ 4), (by decide : (4 : Int) < 6)⟩ | exact ⟨(by decide : (0 : Int) ≤ 5), (by decide : (5 : Int) < 6)⟩) ?_)
   | (refine And.intro (by show indep _ _ = true; kernel_rfl) ?_)
   | (refine Exists.intro _ (And.intro (by first | exact rfl) ?_))
   | fail
  all_goals (conv => whnf)
  all_goals (refine ⟨?_, rfl⟩; first | exact congrArg V.bool (decide_eq_true (show _ by omega)).symm | exact congrArg V.bool (decide_eq_false (show _ by omega)).symm)
theorem rclose_n1 (k l n : Int) (a b c d e f : Plc) (t : Int) (hn : (b.opn && (b.turn == t)) = false) : ATriple Try.prog gv noRep 15 [.ref (0, 0) 0, hdl 1 t] [.box (rcells k l n a b c d e f)] (i64V 11) [.box (rcells k l n a b c d e f)] (none) := by
  refine ATriple.of_body (C := cx) Try.func15 rfl (by kernel_rfl) mixed rfl (by simp [okA, okC, okN]) (by simp [okOb, okC, okN, rcells]) (by simp [okG, okA, okC, okN]) (by simp [okOb, okC, okN, rcells]) (fun o ho => by cases ho) fun E hE => ?_
  repeat' (conv => whnf); first
   | (refine bcase_of (fun hr => ?_) (fun hr => ?_) <;> (try simp only [decide_eq_true_eq, decide_eq_false_iff_not, gt_iff_lt, ge_iff_le, beq_iff_eq, beq_eq_false_iff_ne, ne_eq] at hr) <;> try (exfalso; first | omega | (simp_all; done)))
   | (refine And.intro (by first | exact Nat.le_of_ble_eq_true rfl | decide | decide | exact ⟨(by decide : (0 : Int) ≤ 0), (by decide : (0 : Int) < 6)⟩ | exact ⟨(by decide : (0 : Int) ≤ 1), (by decide : (1 : Int) < 6)⟩ | exact ⟨(by decide : (0 : Int) ≤ 2), (by decide : (2 : Int) < 6)⟩ | exact ⟨(by decide : (0 : Int) ≤ 3), (by decide : (3 : Int) < 6)⟩ | exact ⟨(by decide : (0 : Int) ≤ 4), (by decide : (4 : Int) < 6)⟩ | exact ⟨(by decide : (0 : Int) ≤ 5), (by decide : (5 : Int) < 6)⟩) ?_)
   | (refine And.intro (by show indep _ _ = true; kernel_rfl) ?_)
   | (refine Exists.intro _ (And.intro (by first | exact rfl) ?_))
   | refine ⟨_, _, _, ATriple.call (rhas_1 k l n a b c d e f t) (by rfl) (by rfl) (by rfl), ?_⟩
   | fail
  all_goals (conv => whnf)
  all_goals exact ⟨rfl, rfl⟩
theorem rover_1 (k l n : Int) (a b c d e f : Plc) (t dn : Int) : ATriple Try.prog gv noRep 28 [.ref (0, 0) 0, hdl 1 t, i64V dn] [.box (rcells k l n a b c d e f)] (.bool (decide ((b.ver ≤ dn ∧ k ≤ IntKind.i64.wrap (dn - b.ver)) ∨ b.till < n))) [.box (rcells k l n a b c d e f)] (none) := by
  refine ATriple.of_body (C := cx) Try.func28 rfl (by kernel_rfl) mixed rfl (by simp [okA, okC, okN]) (by simp [okOb, okC, okN, rcells]) (by simp [okG, okA, okC, okN]) (by simp [okOb, okC, okN, rcells]) (fun o ho => by cases ho) fun E hE => ?_
  repeat' (conv => whnf); first
   | (refine bcase_of (fun hr => ?_) (fun hr => ?_) <;> (try simp only [decide_eq_true_eq, decide_eq_false_iff_not, gt_iff_lt, ge_iff_le, beq_iff_eq, beq_eq_false_iff_ne, ne_eq] at hr) <;> try (exfalso; first | omega | (simp_all; done)))
   | (refine And.intro (by first | exact Nat.le_of_ble_eq_true rfl | decide | decide | exact ⟨(by decide : (0 : Int) ≤ 0), (by decide : (0 : Int) < 6)⟩ | exact ⟨(by decide : (0 : Int) ≤ 1), (by decide : (1 : Int) < 6)⟩ | exact ⟨(by decide : (0 : Int) ≤ 2), (by decide : (2 : Int) < 6)⟩ | exact ⟨(by decide : (0 : Int) ≤ 3), (by decide : (3 : Int) < 6)⟩ | exact ⟨(by decide : (0 : Int) ≤ 4), (by decide : (4 : Int) < 6)⟩ | exact ⟨(by decide : (0 : Int) ≤ 5), (by decide : (5 : Int) < 6)⟩) ?_)
   | (refine And.intro (by show indep _ _ = true; kernel_rfl) ?_)
   | (refine Exists.intro _ (And.intro (by first | exact rfl) ?_))
   | fail
  all_goals (conv => whnf)
  all_goals (refine ⟨?_, rfl⟩; first | exact congrArg V.bool (decide_eq_true (show _ by omega)).symm | exact congrArg V.bool (decide_eq_false (show _ by omega)).symm)
theorem rclose_n2 (k l n : Int) (a b c d e f : Plc) (t : Int) (hn : (c.opn && (c.turn == t)) = false) : ATriple Try.prog gv noRep 15 [.ref (0, 0) 0, hdl 2 t] [.box (rcells k l n a b c d e f)] (i64V 11) [.box (rcells k l n a b c d e f)] (none) := by
  refine ATriple.of_body (C := cx) Try.func15 rfl (by kernel_rfl) mixed rfl (by simp [okA, okC, okN]) (by simp [okOb, okC, okN, rcells]) (by simp [okG, okA, okC, okN]) (by simp [okOb, okC, okN, rcells]) (fun o ho => by cases ho) fun E hE => ?_
  repeat' (conv => whnf); first
   | (refine bcase_of (fun hr => ?_) (fun hr => ?_) <;> (try simp only [decide_eq_true_eq, decide_eq_false_iff_not, gt_iff_lt, ge_iff_le, beq_iff_eq, beq_eq_false_iff_ne, ne_eq] at hr) <;> try (exfalso; first | omega | (simp_all; done)))
   | (refine And.intro (by first | exact Nat.le_of_ble_eq_true rfl | decide | decide | exact ⟨(by decide : (0 : Int) ≤ 0), (by decide : (0 : Int) < 6)⟩ | exact ⟨(by decide : (0 : Int) ≤ 1), (by decide : (1 : Int) < 6)⟩ | exact ⟨(by decide : (0 : Int) ≤ 2), (by decide : (2 : Int) < 6)⟩ | exact ⟨(by decide : (0 : Int) ≤ 3), (by decide : (3 : Int) < 6)⟩ | exact ⟨(by decide : (0 : Int) ≤ 4), (by decide : (4 : Int) < 6)⟩ | exact ⟨(by decide : (0 : Int) ≤ 5), (by decide : (5 : Int) < 6)⟩) ?_)
   | (refine And.intro (by show indep _ _ = true; kernel_rfl) ?_)
   | (refine Exists.intro _ (And.intro (by first | exact rfl) ?_))
   | refine ⟨_, _, _, ATriple.call (rhas_2 k l n a b c d e f t) (by rfl) (by rfl) (by rfl), ?_⟩
   | fail
  all_goals (conv => whnf)
  all_goals exact ⟨rfl, rfl⟩
theorem rover_2 (k l n : Int) (a b c d e f : Plc) (t dn : Int) : ATriple Try.prog gv noRep 28 [.ref (0, 0) 0, hdl 2 t, i64V dn] [.box (rcells k l n a b c d e f)] (.bool (decide ((c.ver ≤ dn ∧ k ≤ IntKind.i64.wrap (dn - c.ver)) ∨ c.till < n))) [.box (rcells k l n a b c d e f)] (none) := by
  refine ATriple.of_body (C := cx) Try.func28 rfl (by kernel_rfl) mixed rfl (by simp [okA, okC, okN]) (by simp [okOb, okC, okN, rcells]) (by simp [okG, okA, okC, okN]) (by simp [okOb, okC, okN, rcells]) (fun o ho => by cases ho) fun E hE => ?_
  repeat' (conv => whnf); first
   | (refine bcase_of (fun hr => ?_) (fun hr => ?_) <;> (try simp only [decide_eq_true_eq, decide_eq_false_iff_not, gt_iff_lt, ge_iff_le, beq_iff_eq, beq_eq_false_iff_ne, ne_eq] at hr) <;> try (exfalso; first | omega | (simp_all; done)))
   | (refine And.intro (by first | exact Nat.le_of_ble_eq_true rfl | decide | decide | exact ⟨(by decide : (0 : Int) ≤ 0), (by decide : (0 : Int) < 6)⟩ | exact ⟨(by decide : (0 : Int) ≤ 1), (by decide : (1 : Int) < 6)⟩ | exact ⟨(by decide : (0 : Int) ≤ 2), (by decide : (2 : Int) < 6)⟩ | exact ⟨(by decide : (0 : Int) ≤ 3), (by decide : (3 : Int) < 6)⟩ | exact ⟨(by decide : (0 : Int) ≤ 4), (by decide : (4 : Int) < 6)⟩ | exact ⟨(by decide : (0 : Int) ≤ 5), (by decide : (5 : Int) < 6)⟩) ?_)
   | (refine And.intro (by show indep _ _ = true; kernel_rfl) ?_)
   | (refine Exists.intro _ (And.intro (by first | exact rfl) ?_))
   | fail
  all_goals (conv => whnf)
  all_goals (refine ⟨?_, rfl⟩; first | exact congrArg V.bool (decide_eq_true (show _ by omega)).symm | exact congrArg V.bool (decide_eq_false (show _ by omega)).symm)
theorem rclose_n3 (k l n : Int) (a b c d e f : Plc) (t : Int) (hn : (d.opn && (d.turn == t)) = false) : ATriple Try.prog gv noRep 15 [.ref (0, 0) 0, hdl 3 t] [.box (rcells k l n a b c d e f)] (i64V 11) [.box (rcells k l n a b c d e f)] (none) := by
  refine ATriple.of_body (C := cx) Try.func15 rfl (by kernel_rfl) mixed rfl (by simp [okA, okC, okN]) (by simp [okOb, okC, okN, rcells]) (by simp [okG, okA, okC, okN]) (by simp [okOb, okC, okN, rcells]) (fun o ho => by cases ho) fun E hE => ?_
  repeat' (conv => whnf); first
   | (refine bcase_of (fun hr => ?_) (fun hr => ?_) <;> (try simp only [decide_eq_true_eq, decide_eq_false_iff_not, gt_iff_lt, ge_iff_le, beq_iff_eq, beq_eq_false_iff_ne, ne_eq] at hr) <;> try (exfalso; first | omega | (simp_all; done)))
   | (refine And.intro (by first | exact Nat.le_of_ble_eq_true rfl | decide | decide | exact ⟨(by decide : (0 : Int) ≤ 0), (by decide : (0 : Int) < 6)⟩ | exact ⟨(by decide : (0 : Int) ≤ 1), (by decide : (1 : Int) < 6)⟩ | exact ⟨(by decide : (0 : Int) ≤ 2), (by decide : (2 : Int) < 6)⟩ | exact ⟨(by decide : (0 : Int) ≤ 3), (by decide : (3 : Int) < 6)⟩ | exact ⟨(by decide : (0 : Int) ≤ 4), (by decide : (4 : Int) < 6)⟩ | exact ⟨(by decide : (0 : Int) ≤ 5), (by decide : (5 : Int) < 6)⟩) ?_)
   | (refine And.intro (by show indep _ _ = true; kernel_rfl) ?_)
   | (refine Exists.intro _ (And.intro (by first | exact rfl) ?_))
   | refine ⟨_, _, _, ATriple.call (rhas_3 k l n a b c d e f t) (by rfl) (by rfl) (by rfl), ?_⟩
   | fail
  all_goals (conv => whnf)
  all_goals exact ⟨rfl, rfl⟩
theorem rover_3 (k l n : Int) (a b c d e f : Plc) (t dn : Int) : ATriple Try.prog gv noRep 28 [.ref (0, 0) 0, hdl 3 t, i64V dn] [.box (rcells k l n a b c d e f)] (.bool (decide ((d.ver ≤ dn ∧ k ≤ IntKind.i64.wrap (dn - d.ver)) ∨ d.till < n))) [.box (rcells k l n a b c d e f)] (none) := by
  refine ATriple.of_body (C := cx) Try.func28 rfl (by kernel_rfl) mixed rfl (by simp [okA, okC, okN]) (by simp [okOb, okC, okN, rcells]) (by simp [okG, okA, okC, okN]) (by simp [okOb, okC, okN, rcells]) (fun o ho => by cases ho) fun E hE => ?_
  repeat' (conv => whnf); first
   | (refine bcase_of (fun hr => ?_) (fun hr => ?_) <;> (try simp only [decide_eq_true_eq, decide_eq_false_iff_not, gt_iff_lt, ge_iff_le, beq_iff_eq, beq_eq_false_iff_ne, ne_eq] at hr) <;> try (exfalso; first | omega | (simp_all; done)))
   | (refine And.intro (by first | exact Nat.le_of_ble_eq_true rfl | decide | decide | exact ⟨(by decide : (0 : Int) ≤ 0), (by decide : (0 : Int) < 6)⟩ | exact ⟨(by decide : (0 : Int) ≤ 1), (by decide : (1 : Int) < 6)⟩ | exact ⟨(by decide : (0 : Int) ≤ 2), (by decide : (2 : Int) < 6)⟩ | exact ⟨(by decide : (0 : Int) ≤ 3), (by decide : (3 : Int) < 6)⟩ | exact ⟨(by decide : (0 : Int) ≤ 4), (by decide : (4 : Int) < 6)⟩ | exact ⟨(by decide : (0 : Int) ≤ 5), (by decide : (5 : Int) < 6)⟩) ?_)
   | (refine And.intro (by show indep _ _ = true; kernel_rfl) ?_)
   | (refine Exists.intro _ (And.intro (by first | exact rfl) ?_))
   | fail
  all_goals (conv => whnf)
  all_goals (refine ⟨?_, rfl⟩; first | exact congrArg V.bool (decide_eq_true (show _ by omega)).symm | exact congrArg V.bool (decide_eq_false (show _ by omega)).symm)
theorem rclose_n4 (k l n : Int) (a b c d e f : Plc) (t : Int) (hn : (e.opn && (e.turn == t)) = false) : ATriple Try.prog gv noRep 15 [.ref (0, 0) 0, hdl 4 t] [.box (rcells k l n a b c d e f)] (i64V 11) [.box (rcells k l n a b c d e f)] (none) := by
  refine ATriple.of_body (C := cx) Try.func15 rfl (by kernel_rfl) mixed rfl (by simp [okA, okC, okN]) (by simp [okOb, okC, okN, rcells]) (by simp [okG, okA, okC, okN]) (by simp [okOb, okC, okN, rcells]) (fun o ho => by cases ho) fun E hE => ?_
  repeat' (conv => whnf); first
   | (refine bcase_of (fun hr => ?_) (fun hr => ?_) <;> (try simp only [decide_eq_true_eq, decide_eq_false_iff_not, gt_iff_lt, ge_iff_le, beq_iff_eq, beq_eq_false_iff_ne, ne_eq] at hr) <;> try (exfalso; first | omega | (simp_all; done)))
   | (refine And.intro (by first | exact Nat.le_of_ble_eq_true rfl | decide | decide | exact ⟨(by decide : (0 : Int) ≤ 0), (by decide : (0 : Int) < 6)⟩ | exact ⟨(by decide : (0 : Int) ≤ 1), (by decide : (1 : Int) < 6)⟩ | exact ⟨(by decide : (0 : Int) ≤ 2), (by decide : (2 : Int) < 6)⟩ | exact ⟨(by decide : (0 : Int) ≤ 3), (by decide : (3 : Int) < 6)⟩ | exact ⟨(by decide : (0 : Int) ≤ 4), (by decide : (4 : Int) < 6)⟩ | exact ⟨(by decide : (0 : Int) ≤ 5), (by decide : (5 : Int) < 6)⟩) ?_)
   | (refine And.intro (by show indep _ _ = true; kernel_rfl) ?_)
   | (refine Exists.intro _ (And.intro (by first | exact rfl) ?_))
   | refine ⟨_, _, _, ATriple.call (rhas_4 k l n a b c d e f t) (by rfl) (by rfl) (by rfl), ?_⟩
   | fail
  all_goals (conv => whnf)
  all_goals exact ⟨rfl, rfl⟩
theorem rover_4 (k l n : Int) (a b c d e f : Plc) (t dn : Int) : ATriple Try.prog gv noRep 28 [.ref (0, 0) 0, hdl 4 t, i64V dn] [.box (rcells k l n a b c d e f)] (.bool (decide ((e.ver ≤ dn ∧ k ≤ IntKind.i64.wrap (dn - e.ver)) ∨ e.till < n))) [.box (rcells k l n a b c d e f)] (none) := by
  refine ATriple.of_body (C := cx) Try.func28 rfl (by kernel_rfl) mixed rfl (by simp [okA, okC, okN]) (by simp [okOb, okC, okN, rcells]) (by simp [okG, okA, okC, okN]) (by simp [okOb, okC, okN, rcells]) (fun o ho => by cases ho) fun E hE => ?_
  repeat' (conv => whnf); first
   | (refine bcase_of (fun hr => ?_) (fun hr => ?_) <;> (try simp only [decide_eq_true_eq, decide_eq_false_iff_not, gt_iff_lt, ge_iff_le, beq_iff_eq, beq_eq_false_iff_ne, ne_eq] at hr) <;> try (exfalso; first | omega | (simp_all; done)))
   | (refine And.intro (by first | exact Nat.le_of_ble_eq_true rfl | decide | decide | exact ⟨(by decide : (0 : Int) ≤ 0), (by decide : (0 : Int) < 6)⟩ | exact ⟨(by decide : (0 : Int) ≤ 1), (by decide : (1 : Int) < 6)⟩ | exact ⟨(by decide : (0 : Int) ≤ 2), (by decide : (2 : Int) < 6)⟩ | exact ⟨(by decide : (0 : Int) ≤ 3), (by decide : (3 : Int) < 6)⟩ | exact ⟨(by decide : (0 : Int) ≤ 4), (by decide : (4 : Int) < 6)⟩ | exact ⟨(by decide : (0 : Int) ≤ 5), (by decide : (5 : Int) < 6)⟩) ?_)
   | (refine And.intro (by show indep _ _ = true; kernel_rfl) ?_)
   | (refine Exists.intro _ (And.intro (by first | exact rfl) ?_))
   | fail
  all_goals (conv => whnf)
  all_goals (refine ⟨?_, rfl⟩; first | exact congrArg V.bool (decide_eq_true (show _ by omega)).symm | exact congrArg V.bool (decide_eq_false (show _ by omega)).symm)
theorem rclose_n5 (k l n : Int) (a b c d e f : Plc) (t : Int) (hn : (f.opn && (f.turn == t)) = false) : ATriple Try.prog gv noRep 15 [.ref (0, 0) 0, hdl 5 t] [.box (rcells k l n a b c d e f)] (i64V 11) [.box (rcells k l n a b c d e f)] (none) := by
  refine ATriple.of_body (C := cx) Try.func15 rfl (by kernel_rfl) mixed rfl (by simp [okA, okC, okN]) (by simp [okOb, okC, okN, rcells]) (by simp [okG, okA, okC, okN]) (by simp [okOb, okC, okN, rcells]) (fun o ho => by cases ho) fun E hE => ?_
  repeat' (conv => whnf); first
   | (refine bcase_of (fun hr => ?_) (fun hr => ?_) <;> (try simp only [decide_eq_true_eq, decide_eq_false_iff_not, gt_iff_lt, ge_iff_le, beq_iff_eq, beq_eq_false_iff_ne, ne_eq] at hr) <;> try (exfalso; first | omega | (simp_all; done)))
   | (refine And.intro (by first | exact Nat.le_of_ble_eq_true rfl | decide | decide | exact ⟨(by decide : (0 : Int) ≤ 0), (by decide : (0 : Int) < 6)⟩ | exact ⟨(by decide : (0 : Int) ≤ 1), (by decide : (1 : Int) < 6)⟩ | exact ⟨(by decide : (0 : Int) ≤ 2), (by decide : (2 : Int) < 6)⟩ | exact ⟨(by decide : (0 : Int) ≤ 3), (by decide : (3 : Int) < 6)⟩ | exact ⟨(by decide : (0 : Int) ≤ 4), (by decide : (4 : Int) < 6)⟩ | exact ⟨(by decide : (0 : Int) ≤ 5), (by decide : (5 : Int) < 6)⟩) ?_)
   | (refine And.intro (by show indep _ _ = true; kernel_rfl) ?_)
   | (refine Exists.intro _ (And.intro (by first | exact rfl) ?_))
   | refine ⟨_, _, _, ATriple.call (rhas_5 k l n a b c d e f t) (by rfl) (by rfl) (by rfl), ?_⟩
   | fail
  all_goals (conv => whnf)
  all_goals exact ⟨rfl, rfl⟩
theorem rover_5 (k l n : Int) (a b c d e f : Plc) (t dn : Int) : ATriple Try.prog gv noRep 28 [.ref (0, 0) 0, hdl 5 t, i64V dn] [.box (rcells k l n a b c d e f)] (.bool (decide ((f.ver ≤ dn ∧ k ≤ IntKind.i64.wrap (dn - f.ver)) ∨ f.till < n))) [.box (rcells k l n a b c d e f)] (none) := by
  refine ATriple.of_body (C := cx) Try.func28 rfl (by kernel_rfl) mixed rfl (by simp [okA, okC, okN]) (by simp [okOb, okC, okN, rcells]) (by simp [okG, okA, okC, okN]) (by simp [okOb, okC, okN, rcells]) (fun o ho => by cases ho) fun E hE => ?_
  repeat' (conv => whnf); first
   | (refine bcase_of (fun hr => ?_) (fun hr => ?_) <;> (try simp only [decide_eq_true_eq, decide_eq_false_iff_not, gt_iff_lt, ge_iff_le, beq_iff_eq, beq_eq_false_iff_ne, ne_eq] at hr) <;> try (exfalso; first | omega | (simp_all; done)))
   | (refine And.intro (by first | exact Nat.le_of_ble_eq_true rfl | decide | decide | exact ⟨(by decide : (0 : Int) ≤ 0), (by decide : (0 : Int) < 6)⟩ | exact ⟨(by decide : (0 : Int) ≤ 1), (by decide : (1 : Int) < 6)⟩ | exact ⟨(by decide : (0 : Int) ≤ 2), (by decide : (2 : Int) < 6)⟩ | exact ⟨(by decide : (0 : Int) ≤ 3), (by decide : (3 : Int) < 6)⟩ | exact ⟨(by decide : (0 : Int) ≤ 4), (by decide : (4 : Int) < 6)⟩ | exact ⟨(by decide : (0 : Int) ≤ 5), (by decide : (5 : Int) < 6)⟩) ?_)
   | (refine And.intro (by show indep _ _ = true; kernel_rfl) ?_)
   | (refine Exists.intro _ (And.intro (by first | exact rfl) ?_))
   | fail
  all_goals (conv => whnf)
  all_goals (refine ⟨?_, rfl⟩; first | exact congrArg V.bool (decide_eq_true (show _ by omega)).symm | exact congrArg V.bool (decide_eq_false (show _ by omega)).symm)
theorem rclose_out (k l n : Int) (a b c d e f : Plc) (p t : Int) (hp : p < 0 ∨ 6 ≤ p) : ATriple Try.prog gv noRep 15 [.ref (0, 0) 0, hdl p t] [.box (rcells k l n a b c d e f)] (i64V 11) [.box (rcells k l n a b c d e f)] (none) := by
  refine ATriple.of_body (C := cx) Try.func15 rfl (by kernel_rfl) mixed rfl (by simp [okA, okC, okN]) (by simp [okOb, okC, okN, rcells]) (by simp [okG, okA, okC, okN]) (by simp [okOb, okC, okN, rcells]) (fun o ho => by cases ho) fun E hE => ?_
  repeat' (conv => whnf); first
   | (refine bcase_of (fun hr => ?_) (fun hr => ?_) <;> (try simp only [decide_eq_true_eq, decide_eq_false_iff_not, gt_iff_lt, ge_iff_le, beq_iff_eq, beq_eq_false_iff_ne, ne_eq] at hr) <;> try (exfalso; first | omega | (simp_all; done)))
   | (refine And.intro (by first | exact Nat.le_of_ble_eq_true rfl | decide | decide | exact ⟨(by decide : (0 : Int) ≤ 0), (by decide : (0 : Int) < 6)⟩ | exact ⟨(by decide : (0 : Int) ≤ 1), (by decide : (1 : Int) < 6)⟩ | exact ⟨(by decide : (0 : Int) ≤ 2), (by decide : (2 : Int) < 6)⟩ | exact ⟨(by decide : (0 : Int) ≤ 3), (by decide : (3 : Int) < 6)⟩ | exact ⟨(by decide : (0 : Int) ≤ 4), (by decide : (4 : Int) < 6)⟩ | exact ⟨(by decide : (0 : Int) ≤ 5), (by decide : (5 : Int) < 6)⟩) ?_)
   | (refine And.intro (by show indep _ _ = true; kernel_rfl) ?_)
   | (refine Exists.intro _ (And.intro (by first | exact rfl) ?_))
   | refine ⟨_, _, _, ATriple.call (rhas_out k l n a b c d e f p t hp) (by rfl) (by rfl) (by rfl), ?_⟩
   | fail
  all_goals (conv => whnf)
  all_goals exact ⟨rfl, rfl⟩
end Go.Proofs.Ythgalldffgaddaa
