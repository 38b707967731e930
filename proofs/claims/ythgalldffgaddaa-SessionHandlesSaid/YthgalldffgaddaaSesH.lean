/- Chapter 24: what its functions come to (SesH). -/
import Derived.Test.YthgalldffgaddaaSesG
set_option linter.unusedVariables false
set_option linter.unusedSimpArgs false
namespace Go.Proofs.Ythgalldffgaddaa
open Go Go.Vm
set_option maxRecDepth 100000
set_option maxHeartbeats 4000000
set_option linter.unusedSimpArgs false
theorem find_1 (k l n : Int) (a b c d e f : Plc) (ho : b.opn = true) : ATriple Try.prog gv noRep 26 [.ref (0, 0) 0, hdl 1 b.turn] [.box (cells k l n a b c d e f)] (.ref (0, 0) 7) [.box (cells k l n a b c d e f)] none := find_at1 k l n a b c d e f 1 b.turn ho rfl rfl
theorem close_1 (k l n : Int) (a b c d e f : Plc) (ho : b.opn = true) : ATriple Try.prog gv noRep 14 [.ref (0, 0) 0, hdl 1 b.turn] [.box (cells k l n a b c d e f)] (i64V 0) [.box (cells k l n a ⟨b.turn, false, 0, 0⟩ c d e f)] (none) := by
  refine ATriple.of_body (C := cx) Try.func14 rfl (by kernel_rfl) mixed rfl (by simp [okA, okC, okN]) (by simp [okOb, okC, okN, cells, plc]) (by simp [okG, okA, okC, okN]) (by simp [okOb, okC, okN, cells, plc]) (fun o ho => by cases ho) fun E hE => ?_
  repeat' (conv => whnf); first
   | (refine bcase_of (fun hr => ?_) (fun hr => ?_) <;> (try simp only [decide_eq_true_eq, decide_eq_false_iff_not, gt_iff_lt, ge_iff_le] at hr) <;> try (exfalso; first | omega | (simp_all; done)))
   | (refine And.intro (by first | exact Nat.le_of_ble_eq_true rfl | decide) ?_)
   | (refine And.intro (by show indep _ _ = true; kernel_rfl) ?_)
   | (refine Exists.intro _ (And.intro (by first | exact rfl) ?_))
   | refine ⟨_, _, _, ATriple.call (find_1 k l n a b c d e f ho) (by rfl) (by rfl) (by rfl), ?_⟩
   | fail
  all_goals (conv => whnf)
  all_goals exact ⟨rfl, rfl⟩
theorem look_1 (k l n : Int) (a b c d e f : Plc) (ho : b.opn = true) : ATriple Try.prog gv noRep 24 [.ref (0, 0) 0, hdl 1 b.turn] [.box (cells k l n a b c d e f)] (.tup [i64V b.ver, .bool true]) [.box (cells k l n a b c d e f)] (none) := by
  refine ATriple.of_body (C := cx) Try.func24 rfl (by kernel_rfl) mixed rfl (by simp [okA, okC, okN]) (by simp [okOb, okC, okN, cells, plc]) (by simp [okG, okA, okC, okN]) (by simp [okOb, okC, okN, cells, plc]) (fun o ho => by cases ho) fun E hE => ?_
  repeat' (conv => whnf); first
   | (refine bcase_of (fun hr => ?_) (fun hr => ?_) <;> (try simp only [decide_eq_true_eq, decide_eq_false_iff_not, gt_iff_lt, ge_iff_le] at hr) <;> try (exfalso; first | omega | (simp_all; done)))
   | (refine And.intro (by first | exact Nat.le_of_ble_eq_true rfl | decide) ?_)
   | (refine And.intro (by show indep _ _ = true; kernel_rfl) ?_)
   | (refine Exists.intro _ (And.intro (by first | exact rfl) ?_))
   | refine ⟨_, _, _, ATriple.call (find_1 k l n a b c d e f ho) (by rfl) (by rfl) (by rfl), ?_⟩
   | fail
  all_goals (conv => whnf)
  all_goals exact ⟨rfl, rfl⟩
theorem read_1 (k l n : Int) (a b c d e f : Plc) (dn : Int) (ho : b.opn = true) (h : ¬ (k ≤ dn ∧ b.ver ≤ IntKind.i64.wrap (dn - k)) ∧ ¬ b.till < n) : ATriple Try.prog gv noRep 23 [.ref (0, 0) 0, hdl 1 b.turn, i64V dn] [.box (cells k l n a b c d e f)] (.tup [i64V b.ver, i64V 0]) [.box (cells k l n a b c d e f)] (none) := by
  refine ATriple.of_body (C := cx) Try.func23 rfl (by kernel_rfl) mixed rfl (by simp [okA, okC, okN]) (by simp [okOb, okC, okN, cells, plc]) (by simp [okG, okA, okC, okN]) (by simp [okOb, okC, okN, cells, plc]) (fun o ho => by cases ho) fun E hE => ?_
  repeat' (conv => whnf); first
   | (refine bcase_of (fun hr => ?_) (fun hr => ?_) <;> (try simp only [decide_eq_true_eq, decide_eq_false_iff_not, gt_iff_lt, ge_iff_le] at hr) <;> try (exfalso; first | omega | (simp_all; done)))
   | (refine And.intro (by first | exact Nat.le_of_ble_eq_true rfl | decide) ?_)
   | (refine And.intro (by show indep _ _ = true; kernel_rfl) ?_)
   | (refine Exists.intro _ (And.intro (by first | exact rfl) ?_))
   | refine ⟨_, _, _, ATriple.call (find_1 k l n a b c d e f ho) (by rfl) (by rfl) (by rfl), ?_⟩
   | fail
  all_goals (conv => whnf)
  all_goals exact ⟨rfl, rfl⟩
theorem read_1x (k l n : Int) (a b c d e f : Plc) (dn : Int) (ho : b.opn = true) (h : (k ≤ dn ∧ b.ver ≤ IntKind.i64.wrap (dn - k)) ∨ b.till < n) : ATriple Try.prog gv noRep 23 [.ref (0, 0) 0, hdl 1 b.turn, i64V dn] [.box (cells k l n a b c d e f)] (.tup [i64V 0, i64V 12]) [.box (cells k l n a b c d e f)] (none) := by
  refine ATriple.of_body (C := cx) Try.func23 rfl (by kernel_rfl) mixed rfl (by simp [okA, okC, okN]) (by simp [okOb, okC, okN, cells, plc]) (by simp [okG, okA, okC, okN]) (by simp [okOb, okC, okN, cells, plc]) (fun o ho => by cases ho) fun E hE => ?_
  repeat' (conv => whnf); first
   | (refine bcase_of (fun hr => ?_) (fun hr => ?_) <;> (try simp only [decide_eq_true_eq, decide_eq_false_iff_not, gt_iff_lt, ge_iff_le] at hr) <;> try (exfalso; first | omega | (simp_all; done)))
   | (refine And.intro (by first | exact Nat.le_of_ble_eq_true rfl | decide) ?_)
   | (refine And.intro (by show indep _ _ = true; kernel_rfl) ?_)
   | (refine Exists.intro _ (And.intro (by first | exact rfl) ?_))
   | refine ⟨_, _, _, ATriple.call (find_1 k l n a b c d e f ho) (by rfl) (by rfl) (by rfl), ?_⟩
   | fail
  all_goals (conv => whnf)
  all_goals exact ⟨rfl, rfl⟩
theorem find_2 (k l n : Int) (a b c d e f : Plc) (ho : c.opn = true) : ATriple Try.prog gv noRep 26 [.ref (0, 0) 0, hdl 2 c.turn] [.box (cells k l n a b c d e f)] (.ref (0, 0) 11) [.box (cells k l n a b c d e f)] none := find_at2 k l n a b c d e f 2 c.turn ho rfl rfl
theorem close_2 (k l n : Int) (a b c d e f : Plc) (ho : c.opn = true) : ATriple Try.prog gv noRep 14 [.ref (0, 0) 0, hdl 2 c.turn] [.box (cells k l n a b c d e f)] (i64V 0) [.box (cells k l n a b ⟨c.turn, false, 0, 0⟩ d e f)] (none) := by
  refine ATriple.of_body (C := cx) Try.func14 rfl (by kernel_rfl) mixed rfl (by simp [okA, okC, okN]) (by simp [okOb, okC, okN, cells, plc]) (by simp [okG, okA, okC, okN]) (by simp [okOb, okC, okN, cells, plc]) (fun o ho => by cases ho) fun E hE => ?_
  repeat' (conv => whnf); first
   | (refine bcase_of (fun hr => ?_) (fun hr => ?_) <;> (try simp only [decide_eq_true_eq, decide_eq_false_iff_not, gt_iff_lt, ge_iff_le] at hr) <;> try (exfalso; first | omega | (simp_all; done)))
   | (refine And.intro (by first | exact Nat.le_of_ble_eq_true rfl | decide) ?_)
   | (refine And.intro (by show indep _ _ = true; kernel_rfl) ?_)
   | (refine Exists.intro _ (And.intro (by first | exact rfl) ?_))
   | refine ⟨_, _, _, ATriple.call (find_2 k l n a b c d e f ho) (by rfl) (by rfl) (by rfl), ?_⟩
   | fail
  all_goals (conv => whnf)
  all_goals exact ⟨rfl, rfl⟩
theorem look_2 (k l n : Int) (a b c d e f : Plc) (ho : c.opn = true) : ATriple Try.prog gv noRep 24 [.ref (0, 0) 0, hdl 2 c.turn] [.box (cells k l n a b c d e f)] (.tup [i64V c.ver, .bool true]) [.box (cells k l n a b c d e f)] (none) := by
  refine ATriple.of_body (C := cx) Try.func24 rfl (by kernel_rfl) mixed rfl (by simp [okA, okC, okN]) (by simp [okOb, okC, okN, cells, plc]) (by simp [okG, okA, okC, okN]) (by simp [okOb, okC, okN, cells, plc]) (fun o ho => by cases ho) fun E hE => ?_
  repeat' (conv => whnf); first
   | (refine bcase_of (fun hr => ?_) (fun hr => ?_) <;> (try simp only [decide_eq_true_eq, decide_eq_false_iff_not, gt_iff_lt, ge_iff_le] at hr) <;> try (exfalso; first | omega | (simp_all; done)))
   | (refine And.intro (by first | exact Nat.le_of_ble_eq_true rfl | decide) ?_)
   | (refine And.intro (by show indep _ _ = true; kernel_rfl) ?_)
   | (refine Exists.intro _ (And.intro (by first | exact rfl) ?_))
   | refine ⟨_, _, _, ATriple.call (find_2 k l n a b c d e f ho) (by rfl) (by rfl) (by rfl), ?_⟩
   | fail
  all_goals (conv => whnf)
  all_goals exact ⟨rfl, rfl⟩
theorem read_2 (k l n : Int) (a b c d e f : Plc) (dn : Int) (ho : c.opn = true) (h : ¬ (k ≤ dn ∧ c.ver ≤ IntKind.i64.wrap (dn - k)) ∧ ¬ c.till < n) : ATriple Try.prog gv noRep 23 [.ref (0, 0) 0, hdl 2 c.turn, i64V dn] [.box (cells k l n a b c d e f)] (.tup [i64V c.ver, i64V 0]) [.box (cells k l n a b c d e f)] (none) := by
  refine ATriple.of_body (C := cx) Try.func23 rfl (by kernel_rfl) mixed rfl (by simp [okA, okC, okN]) (by simp [okOb, okC, okN, cells, plc]) (by simp [okG, okA, okC, okN]) (by simp [okOb, okC, okN, cells, plc]) (fun o ho => by cases ho) fun E hE => ?_
  repeat' (conv => whnf); first
   | (refine bcase_of (fun hr => ?_) (fun hr => ?_) <;> (try simp only [decide_eq_true_eq, decide_eq_false_iff_not, gt_iff_lt, ge_iff_le] at hr) <;> try (exfalso; first | omega | (simp_all; done)))
   | (refine And.intro (by first | exact Nat.le_of_ble_eq_true rfl | decide) ?_)
   | (refine And.intro (by show indep _ _ = true; kernel_rfl) ?_)
   | (refine Exists.intro _ (And.intro (by first | exact rfl) ?_))
   | refine ⟨_, _, _, ATriple.call (find_2 k l n a b c d e f ho) (by rfl) (by rfl) (by rfl), ?_⟩
   | fail
  all_goals (conv => whnf)
  all_goals exact ⟨rfl, rfl⟩
theorem read_2x (k l n : Int) (a b c d e f : Plc) (dn : Int) (ho : c.opn = true) (h : (k ≤ dn ∧ c.ver ≤ IntKind.i64.wrap (dn - k)) ∨ c.till < n) : ATriple Try.prog gv noRep 23 [.ref (0, 0) 0, hdl 2 c.turn, i64V dn] [.box (cells k l n a b c d e f)] (.tup [i64V 0, i64V 12]) [.box (cells k l n a b c d e f)] (none) := by
  refine ATriple.of_body (C := cx) Try.func23 rfl (by kernel_rfl) mixed rfl (by simp [okA, okC, okN]) (by simp [okOb, okC, okN, cells, plc]) (by simp [okG, okA, okC, okN]) (by simp [okOb, okC, okN, cells, plc]) (fun o ho => by cases ho) fun E hE => ?_
  repeat' (conv => whnf); first
   | (refine bcase_of (fun hr => ?_) (fun hr => ?_) <;> (try simp only [decide_eq_true_eq, decide_eq_false_iff_not, gt_iff_lt, ge_iff_le] at hr) <;> try (exfalso; first | omega | (simp_all; done)))
   | (refine And.intro (by first | exact Nat.le_of_ble_eq_true rfl | decide) ?_)
   | (refine And.intro (by show indep _ _ = true; kernel_rfl) ?_)
   | (refine Exists.intro _ (And.intro (by first | exact rfl) ?_))
   | refine ⟨_, _, _, ATriple.call (find_2 k l n a b c d e f ho) (by rfl) (by rfl) (by rfl), ?_⟩
   | fail
  all_goals (conv => whnf)
  all_goals exact ⟨rfl, rfl⟩
theorem find_3 (k l n : Int) (a b c d e f : Plc) (ho : d.opn = true) : ATriple Try.prog gv noRep 26 [.ref (0, 0) 0, hdl 3 d.turn] [.box (cells k l n a b c d e f)] (.ref (0, 0) 15) [.box (cells k l n a b c d e f)] none := find_at3 k l n a b c d e f 3 d.turn ho rfl rfl
theorem close_3 (k l n : Int) (a b c d e f : Plc) (ho : d.opn = true) : ATriple Try.prog gv noRep 14 [.ref (0, 0) 0, hdl 3 d.turn] [.box (cells k l n a b c d e f)] (i64V 0) [.box (cells k l n a b c ⟨d.turn, false, 0, 0⟩ e f)] (none) := by
  refine ATriple.of_body (C := cx) Try.func14 rfl (by kernel_rfl) mixed rfl (by simp [okA, okC, okN]) (by simp [okOb, okC, okN, cells, plc]) (by simp [okG, okA, okC, okN]) (by simp [okOb, okC, okN, cells, plc]) (fun o ho => by cases ho) fun E hE => ?_
  repeat' (conv => whnf); first
   | (refine bcase_of (fun hr => ?_) (fun hr => ?_) <;> (try simp only [decide_eq_true_eq, decide_eq_false_iff_not, gt_iff_lt, ge_iff_le] at hr) <;> try (exfalso; first | omega | (simp_all; done)))
   | (refine And.intro (by first | exact Nat.le_of_ble_eq_true rfl | decide) ?_)
   | (refine And.intro (by show indep _ _ = true; kernel_rfl) ?_)
   | (refine Exists.intro _ (And.intro (by first | exact rfl) ?_))
   | refine ⟨_, _, _, ATriple.call (find_3 k l n a b c d e f ho) (by rfl) (by rfl) (by rfl), ?_⟩
   | fail
  all_goals (conv => whnf)
  all_goals exact ⟨rfl, rfl⟩
theorem look_3 (k l n : Int) (a b c d e f : Plc) (ho : d.opn = true) : ATriple Try.prog gv noRep 24 [.ref (0, 0) 0, hdl 3 d.turn] [.box (cells k l n a b c d e f)] (.tup [i64V d.ver, .bool true]) [.box (cells k l n a b c d e f)] (none) := by
  refine ATriple.of_body (C := cx) Try.func24 rfl (by kernel_rfl) mixed rfl (by simp [okA, okC, okN]) (by simp [okOb, okC, okN, cells, plc]) (by simp [okG, okA, okC, okN]) (by simp [okOb, okC, okN, cells, plc]) (fun o ho => by cases ho) fun E hE => ?_
  repeat' (conv => whnf); first
   | (refine bcase_of (fun hr => ?_) (fun hr => ?_) <;> (try simp only [decide_eq_true_eq, decide_eq_false_iff_not, gt_iff_lt, ge_iff_le] at hr) <;> try (exfalso; first | omega | (simp_all; done)))
   | (refine And.intro (by first | exact Nat.le_of_ble_eq_true rfl | decide) ?_)
   | (refine And.intro (by show indep _ _ = true; kernel_rfl) ?_)
   | (refine Exists.intro _ (And.intro (by first | exact rfl) ?_))
   | refine ⟨_, _, _, ATriple.call (find_3 k l n a b c d e f ho) (by rfl) (by rfl) (by rfl), ?_⟩
   | fail
  all_goals (conv => whnf)
  all_goals exact ⟨rfl, rfl⟩
theorem read_3 (k l n : Int) (a b c d e f : Plc) (dn : Int) (ho : d.opn = true) (h : ¬ (k ≤ dn ∧ d.ver ≤ IntKind.i64.wrap (dn - k)) ∧ ¬ d.till < n) : ATriple Try.prog gv noRep 23 [.ref (0, 0) 0, hdl 3 d.turn, i64V dn] [.box (cells k l n a b c d e f)] (.tup [i64V d.ver, i64V 0]) [.box (cells k l n a b c d e f)] (none) := by
  refine ATriple.of_body (C := cx) Try.func23 rfl (by kernel_rfl) mixed rfl (by simp [okA, okC, okN]) (by simp [okOb, okC, okN, cells, plc]) (by simp [okG, okA, okC, okN]) (by simp [okOb, okC, okN, cells, plc]) (fun o ho => by cases ho) fun E hE => ?_
  repeat' (conv => whnf); first
   | (refine bcase_of (fun hr => ?_) (fun hr => ?_) <;> (try simp only [decide_eq_true_eq, decide_eq_false_iff_not, gt_iff_lt, ge_iff_le] at hr) <;> try (exfalso; first | omega | (simp_all; done)))
   | (refine And.intro (by first | exact Nat.le_of_ble_eq_true rfl | decide) ?_)
   | (refine And.intro (by show indep _ _ = true; kernel_rfl) ?_)
   | (refine Exists.intro _ (And.intro (by first | exact rfl) ?_))
   | refine ⟨_, _, _, ATriple.call (find_3 k l n a b c d e f ho) (by rfl) (by rfl) (by rfl), ?_⟩
   | fail
  all_goals (conv => whnf)
  all_goals exact ⟨rfl, rfl⟩
theorem read_3x (k l n : Int) (a b c d e f : Plc) (dn : Int) (ho : d.opn = true) (h : (k ≤ dn ∧ d.ver ≤ IntKind.i64.wrap (dn - k)) ∨ d.till < n) : ATriple Try.prog gv noRep 23 [.ref (0, 0) 0, hdl 3 d.turn, i64V dn] [.box (cells k l n a b c d e f)] (.tup [i64V 0, i64V 12]) [.box (cells k l n a b c d e f)] (none) := by
  refine ATriple.of_body (C := cx) Try.func23 rfl (by kernel_rfl) mixed rfl (by simp [okA, okC, okN]) (by simp [okOb, okC, okN, cells, plc]) (by simp [okG, okA, okC, okN]) (by simp [okOb, okC, okN, cells, plc]) (fun o ho => by cases ho) fun E hE => ?_
  repeat' (conv => whnf); first
   | (refine bcase_of (fun hr => ?_) (fun hr => ?_) <;> (try simp only [decide_eq_true_eq, decide_eq_false_iff_not, gt_iff_lt, ge_iff_le] at hr) <;> try (exfalso; first | omega | (simp_all; done)))
   | (refine And.intro (by first | exact Nat.le_of_ble_eq_true rfl | decide) ?_)
   | (refine And.intro (by show indep _ _ = true; kernel_rfl) ?_)
   | (refine Exists.intro _ (And.intro (by first | exact rfl) ?_))
   | refine ⟨_, _, _, ATriple.call (find_3 k l n a b c d e f ho) (by rfl) (by rfl) (by rfl), ?_⟩
   | fail
  all_goals (conv => whnf)
  all_goals exact ⟨rfl, rfl⟩
theorem find_4 (k l n : Int) (a b c d e f : Plc) (ho : e.opn = true) : ATriple Try.prog gv noRep 26 [.ref (0, 0) 0, hdl 4 e.turn] [.box (cells k l n a b c d e f)] (.ref (0, 0) 19) [.box (cells k l n a b c d e f)] none := find_at4 k l n a b c d e f 4 e.turn ho rfl rfl
theorem close_4 (k l n : Int) (a b c d e f : Plc) (ho : e.opn = true) : ATriple Try.prog gv noRep 14 [.ref (0, 0) 0, hdl 4 e.turn] [.box (cells k l n a b c d e f)] (i64V 0) [.box (cells k l n a b c d ⟨e.turn, false, 0, 0⟩ f)] (none) := by
  refine ATriple.of_body (C := cx) Try.func14 rfl (by kernel_rfl) mixed rfl (by simp [okA, okC, okN]) (by simp [okOb, okC, okN, cells, plc]) (by simp [okG, okA, okC, okN]) (by simp [okOb, okC, okN, cells, plc]) (fun o ho => by cases ho) fun E hE => ?_
  repeat' (conv => whnf); first
   | (refine bcase_of (fun hr => ?_) (fun hr => ?_) <;> (try simp only [decide_eq_true_eq, decide_eq_false_iff_not, gt_iff_lt, ge_iff_le] at hr) <;> try (exfalso; first | omega | (simp_all; done)))
   | (refine And.intro (by first | exact Nat.le_of_ble_eq_true rfl | decide) ?_)
   | (refine And.intro (by show indep _ _ = true; kernel_rfl) ?_)
   | (refine Exists.intro _ (And.intro (by first | exact rfl) ?_))
   | refine ⟨_, _, _, ATriple.call (find_4 k l n a b c d e f ho) (by rfl) (by rfl) (by rfl), ?_⟩
   | fail
  all_goals (conv => whnf)
  all_goals exact ⟨rfl, rfl⟩
theorem look_4 (k l n : Int) (a b c d e f : Plc) (ho : e.opn = true) : ATriple Try.prog gv noRep 24 [.ref (0, 0) 0, hdl 4 e.turn] [.box (cells k l n a b c d e f)] (.tup [i64V e.ver, .bool true]) [.box (cells k l n a b c d e f)] (none) := by
  refine ATriple.of_body (C := cx) Try.func24 rfl (by kernel_rfl) mixed rfl (by simp [okA, okC, okN]) (by simp [okOb, okC, okN, cells, plc]) (by simp [okG, okA, okC, okN]) (by simp [okOb, okC, okN, cells, plc]) (fun o ho => by cases ho) fun E hE => ?_
  repeat' (conv => whnf); first
   | (refine bcase_of (fun hr => ?_) (fun hr => ?_) <;> (try simp only [decide_eq_true_eq, decide_eq_false_iff_not, gt_iff_lt, ge_iff_le] at hr) <;> try (exfalso; first | omega | (simp_all; done)))
   | (refine And.intro (by first | exact Nat.le_of_ble_eq_true rfl | decide) ?_)
   | (refine And.intro (by show indep _ _ = true; kernel_rfl) ?_)
   | (refine Exists.intro _ (And.intro (by first | exact rfl) ?_))
   | refine ⟨_, _, _, ATriple.call (find_4 k l n a b c d e f ho) (by rfl) (by rfl) (by rfl), ?_⟩
   | fail
  all_goals (conv => whnf)
  all_goals exact ⟨rfl, rfl⟩
theorem read_4 (k l n : Int) (a b c d e f : Plc) (dn : Int) (ho : e.opn = true) (h : ¬ (k ≤ dn ∧ e.ver ≤ IntKind.i64.wrap (dn - k)) ∧ ¬ e.till < n) : ATriple Try.prog gv noRep 23 [.ref (0, 0) 0, hdl 4 e.turn, i64V dn] [.box (cells k l n a b c d e f)] (.tup [i64V e.ver, i64V 0]) [.box (cells k l n a b c d e f)] (none) := by
  refine ATriple.of_body (C := cx) Try.func23 rfl (by kernel_rfl) mixed rfl (by simp [okA, okC, okN]) (by simp [okOb, okC, okN, cells, plc]) (by simp [okG, okA, okC, okN]) (by simp [okOb, okC, okN, cells, plc]) (fun o ho => by cases ho) fun E hE => ?_
  repeat' (conv => whnf); first
   | (refine bcase_of (fun hr => ?_) (fun hr => ?_) <;> (try simp only [decide_eq_true_eq, decide_eq_false_iff_not, gt_iff_lt, ge_iff_le] at hr) <;> try (exfalso; first | omega | (simp_all; done)))
   | (refine And.intro (by first | exact Nat.le_of_ble_eq_true rfl | decide) ?_)
   | (refine And.intro (by show indep _ _ = true; kernel_rfl) ?_)
   | (refine Exists.intro _ (And.intro (by first | exact rfl) ?_))
   | refine ⟨_, _, _, ATriple.call (find_4 k l n a b c d e f ho) (by rfl) (by rfl) (by rfl), ?_⟩
   | fail
  all_goals (conv => whnf)
  all_goals exact ⟨rfl, rfl⟩
theorem read_4x (k l n : Int) (a b c d e f : Plc) (dn : Int) (ho : e.opn = true) (h : (k ≤ dn ∧ e.ver ≤ IntKind.i64.wrap (dn - k)) ∨ e.till < n) : ATriple Try.prog gv noRep 23 [.ref (0, 0) 0, hdl 4 e.turn, i64V dn] [.box (cells k l n a b c d e f)] (.tup [i64V 0, i64V 12]) [.box (cells k l n a b c d e f)] (none) := by
  refine ATriple.of_body (C := cx) Try.func23 rfl (by kernel_rfl) mixed rfl (by simp [okA, okC, okN]) (by simp [okOb, okC, okN, cells, plc]) (by simp [okG, okA, okC, okN]) (by simp [okOb, okC, okN, cells, plc]) (fun o ho => by cases ho) fun E hE => ?_
  repeat' (conv => whnf); first
   | (refine bcase_of (fun hr => ?_) (fun hr => ?_) <;> (try simp only [decide_eq_true_eq, decide_eq_false_iff_not, gt_iff_lt, ge_iff_le] at hr) <;> try (exfalso; first | omega | (simp_all; done)))
   | (refine And.intro (by first | exact Nat.le_of_ble_eq_true rfl | decide) ?_)
   | (refine And.intro (by show indep _ _ = true; kernel_rfl) ?_)
   | (refine Exists.intro _ (And.intro (by first | exact rfl) ?_))
   | refine ⟨_, _, _, ATriple.call (find_4 k l n a b c d e f ho) (by rfl) (by rfl) (by rfl), ?_⟩
   | fail
  all_goals (conv => whnf)
  all_goals exact ⟨rfl, rfl⟩
theorem find_5 (k l n : Int) (a b c d e f : Plc) (ho : f.opn = true) : ATriple Try.prog gv noRep 26 [.ref (0, 0) 0, hdl 5 f.turn] [.box (cells k l n a b c d e f)] (.ref (0, 0) 23) [.box (cells k l n a b c d e f)] none := find_at5 k l n a b c d e f 5 f.turn ho rfl rfl
theorem close_5 (k l n : Int) (a b c d e f : Plc) (ho : f.opn = true) : ATriple Try.prog gv noRep 14 [.ref (0, 0) 0, hdl 5 f.turn] [.box (cells k l n a b c d e f)] (i64V 0) [.box (cells k l n a b c d e ⟨f.turn, false, 0, 0⟩)] (none) := by
  refine ATriple.of_body (C := cx) Try.func14 rfl (by kernel_rfl) mixed rfl (by simp [okA, okC, okN]) (by simp [okOb, okC, okN, cells, plc]) (by simp [okG, okA, okC, okN]) (by simp [okOb, okC, okN, cells, plc]) (fun o ho => by cases ho) fun E hE => ?_
  repeat' (conv => whnf); first
   | (refine bcase_of (fun hr => ?_) (fun hr => ?_) <;> (try simp only [decide_eq_true_eq, decide_eq_false_iff_not, gt_iff_lt, ge_iff_le] at hr) <;> try (exfalso; first | omega | (simp_all; done)))
   | (refine And.intro (by first | exact Nat.le_of_ble_eq_true rfl | decide) ?_)
   | (refine And.intro (by show indep _ _ = true; kernel_rfl) ?_)
   | (refine Exists.intro _ (And.intro (by first | exact rfl) ?_))
   | refine ⟨_, _, _, ATriple.call (find_5 k l n a b c d e f ho) (by rfl) (by rfl) (by rfl), ?_⟩
   | fail
  all_goals (conv => whnf)
  all_goals exact ⟨rfl, rfl⟩
theorem look_5 (k l n : Int) (a b c d e f : Plc) (ho : f.opn = true) : ATriple Try.prog gv noRep 24 [.ref (0, 0) 0, hdl 5 f.turn] [.box (cells k l n a b c d e f)] (.tup [i64V f.ver, .bool true]) [.box (cells k l n a b c d e f)] (none) := by
  refine ATriple.of_body (C := cx) Try.func24 rfl (by kernel_rfl) mixed rfl (by simp [okA, okC, okN]) (by simp [okOb, okC, okN, cells, plc]) (by simp [okG, okA, okC, okN]) (by simp [okOb, okC, okN, cells, plc]) (fun o ho => by cases ho) fun E hE => ?_
  repeat' (conv => whnf); first
   | (refine bcase_of (fun hr => ?_) (fun hr => ?_) <;> (try simp only [decide_eq_true_eq, decide_eq_false_iff_not, gt_iff_lt, ge_iff_le] at hr) <;> try (exfalso; first | omega | (simp_all; done)))
   | (refine And.intro (by first | exact Nat.le_of_ble_eq_true rfl | decide) ?_)
   | (refine And.intro (by show indep _ _ = true; kernel_rfl) ?_)
   | (refine Exists.intro _ (And.intro (by first | exact rfl) ?_))
   | refine ⟨_, _, _, ATriple.call (find_5 k l n a b c d e f ho) (by rfl) (by rfl) (by rfl), ?_⟩
   | fail
  all_goals (conv => whnf)
  all_goals exact ⟨rfl, rfl⟩
theorem read_5 (k l n : Int) (a b c d e f : Plc) (dn : Int) (ho : f.opn = true) (h : ¬ (k ≤ dn ∧ f.ver ≤ IntKind.i64.wrap (dn - k)) ∧ ¬ f.till < n) : ATriple Try.prog gv noRep 23 [.ref (0, 0) 0, hdl 5 f.turn, i64V dn] [.box (cells k l n a b c d e f)] (.tup [i64V f.ver, i64V 0]) [.box (cells k l n a b c d e f)] (none) := by
  refine ATriple.of_body (C := cx) Try.func23 rfl (by kernel_rfl) mixed rfl (by simp [okA, okC, okN]) (by simp [okOb, okC, okN, cells, plc]) (by simp [okG, okA, okC, okN]) (by simp [okOb, okC, okN, cells, plc]) (fun o ho => by cases ho) fun E hE => ?_
  repeat' (conv => whnf); first
   | (refine bcase_of (fun hr => ?_) (fun hr => ?_) <;> (try simp only [decide_eq_true_eq, decide_eq_false_iff_not, gt_iff_lt, ge_iff_le] at hr) <;> try (exfalso; first | omega | (simp_all; done)))
   | (refine And.intro (by first | exact Nat.le_of_ble_eq_true rfl | decide) ?_)
   | (refine And.intro (by show indep _ _ = true; kernel_rfl) ?_)
   | (refine Exists.intro _ (And.intro (by first | exact rfl) ?_))
   | refine ⟨_, _, _, ATriple.call (find_5 k l n a b c d e f ho) (by rfl) (by rfl) (by rfl), ?_⟩
   | fail
  all_goals (conv => whnf)
  all_goals exact ⟨rfl, rfl⟩
theorem read_5x (k l n : Int) (a b c d e f : Plc) (dn : Int) (ho : f.opn = true) (h : (k ≤ dn ∧ f.ver ≤ IntKind.i64.wrap (dn - k)) ∨ f.till < n) : ATriple Try.prog gv noRep 23 [.ref (0, 0) 0, hdl 5 f.turn, i64V dn] [.box (cells k l n a b c d e f)] (.tup [i64V 0, i64V 12]) [.box (cells k l n a b c d e f)] (none) := by
  refine ATriple.of_body (C := cx) Try.func23 rfl (by kernel_rfl) mixed rfl (by simp [okA, okC, okN]) (by simp [okOb, okC, okN, cells, plc]) (by simp [okG, okA, okC, okN]) (by simp [okOb, okC, okN, cells, plc]) (fun o ho => by cases ho) fun E hE => ?_
  repeat' (conv => whnf); first
   | (refine bcase_of (fun hr => ?_) (fun hr => ?_) <;> (try simp only [decide_eq_true_eq, decide_eq_false_iff_not, gt_iff_lt, ge_iff_le] at hr) <;> try (exfalso; first | omega | (simp_all; done)))
   | (refine And.intro (by first | exact Nat.le_of_ble_eq_true rfl | decide) ?_)
   | (refine And.intro (by show indep _ _ = true; kernel_rfl) ?_)
   | (refine Exists.intro _ (And.intro (by first | exact rfl) ?_))
   | refine ⟨_, _, _, ATriple.call (find_5 k l n a b c d e f ho) (by rfl) (by rfl) (by rfl), ?_⟩
   | fail
  all_goals (conv => whnf)
  all_goals exact ⟨rfl, rfl⟩
theorem close_none (k l n : Int) (a b c d e f : Plc) (p t : Int) (h0 : a.opn = true → ¬ (p = 0 ∧ t = a.turn)) (h1 : b.opn = true → ¬ (p = 1 ∧ t = b.turn)) (h2 : c.opn = true → ¬ (p = 2 ∧ t = c.turn)) (h3 : d.opn = true → ¬ (p = 3 ∧ t = d.turn)) (h4 : e.opn = true → ¬ (p = 4 ∧ t = e.turn)) (h5 : f.opn = true → ¬ (p = 5 ∧ t = f.turn)) : ATriple Try.prog gv noRep 14 [.ref (0, 0) 0, hdl p t] [.box (cells k l n a b c d e f)] (i64V 11) [.box (cells k l n a b c d e f)] (none) := by
  refine ATriple.of_body (C := cx) Try.func14 rfl (by kernel_rfl) mixed rfl (by simp [okA, okC, okN]) (by simp [okOb, okC, okN, cells, plc]) (by simp [okG, okA, okC, okN]) (by simp [okOb, okC, okN, cells, plc]) (fun o ho => by cases ho) fun E hE => ?_
  repeat' (conv => whnf); first
   | (refine bcase_of (fun hr => ?_) (fun hr => ?_) <;> (try simp only [decide_eq_true_eq, decide_eq_false_iff_not, gt_iff_lt] at hr) <;> try (exfalso; omega))
   | (refine And.intro (by first | exact Nat.le_of_ble_eq_true rfl | decide) ?_)
   | (refine And.intro (by show indep _ _ = true; kernel_rfl) ?_)
   | (refine Exists.intro _ (And.intro (by first | exact rfl) ?_))
   | refine ⟨_, _, _, ATriple.call (find_none k l n a b c d e f p t h0 h1 h2 h3 h4 h5) (by rfl) (by rfl) (by rfl), ?_⟩
   | fail
  all_goals (conv => whnf)
  all_goals exact ⟨rfl, rfl⟩
theorem look_none (k l n : Int) (a b c d e f : Plc) (p t : Int) (h0 : a.opn = true → ¬ (p = 0 ∧ t = a.turn)) (h1 : b.opn = true → ¬ (p = 1 ∧ t = b.turn)) (h2 : c.opn = true → ¬ (p = 2 ∧ t = c.turn)) (h3 : d.opn = true → ¬ (p = 3 ∧ t = d.turn)) (h4 : e.opn = true → ¬ (p = 4 ∧ t = e.turn)) (h5 : f.opn = true → ¬ (p = 5 ∧ t = f.turn)) : ATriple Try.prog gv noRep 24 [.ref (0, 0) 0, hdl p t] [.box (cells k l n a b c d e f)] (.tup [i64V 0, .bool false]) [.box (cells k l n a b c d e f)] (none) := by
  refine ATriple.of_body (C := cx) Try.func24 rfl (by kernel_rfl) mixed rfl (by simp [okA, okC, okN]) (by simp [okOb, okC, okN, cells, plc]) (by simp [okG, okA, okC, okN]) (by simp [okOb, okC, okN, cells, plc]) (fun o ho => by cases ho) fun E hE => ?_
  repeat' (conv => whnf); first
   | (refine bcase_of (fun hr => ?_) (fun hr => ?_) <;> (try simp only [decide_eq_true_eq, decide_eq_false_iff_not, gt_iff_lt] at hr) <;> try (exfalso; omega))
   | (refine And.intro (by first | exact Nat.le_of_ble_eq_true rfl | decide) ?_)
   | (refine And.intro (by show indep _ _ = true; kernel_rfl) ?_)
   | (refine Exists.intro _ (And.intro (by first | exact rfl) ?_))
   | refine ⟨_, _, _, ATriple.call (find_none k l n a b c d e f p t h0 h1 h2 h3 h4 h5) (by rfl) (by rfl) (by rfl), ?_⟩
   | fail
  all_goals (conv => whnf)
  all_goals exact ⟨rfl, rfl⟩
theorem read_none (k l n : Int) (a b c d e f : Plc) (dn p t : Int) (h0 : a.opn = true → ¬ (p = 0 ∧ t = a.turn)) (h1 : b.opn = true → ¬ (p = 1 ∧ t = b.turn)) (h2 : c.opn = true → ¬ (p = 2 ∧ t = c.turn)) (h3 : d.opn = true → ¬ (p = 3 ∧ t = d.turn)) (h4 : e.opn = true → ¬ (p = 4 ∧ t = e.turn)) (h5 : f.opn = true → ¬ (p = 5 ∧ t = f.turn)) : ATriple Try.prog gv noRep 23 [.ref (0, 0) 0, hdl p t, i64V dn] [.box (cells k l n a b c d e f)] (.tup [i64V 0, i64V 11]) [.box (cells k l n a b c d e f)] (none) := by
  refine ATriple.of_body (C := cx) Try.func23 rfl (by kernel_rfl) mixed rfl (by simp [okA, okC, okN]) (by simp [okOb, okC, okN, cells, plc]) (by simp [okG, okA, okC, okN]) (by simp [okOb, okC, okN, cells, plc]) (fun o ho => by cases ho) fun E hE => ?_
  repeat' (conv => whnf); first
   | (refine bcase_of (fun hr => ?_) (fun hr => ?_) <;> (try simp only [decide_eq_true_eq, decide_eq_false_iff_not, gt_iff_lt] at hr) <;> try (exfalso; omega))
   | (refine And.intro (by first | exact Nat.le_of_ble_eq_true rfl | decide) ?_)
   | (refine And.intro (by show indep _ _ = true; kernel_rfl) ?_)
   | (refine Exists.intro _ (And.intro (by first | exact rfl) ?_))
   | refine ⟨_, _, _, ATriple.call (find_none k l n a b c d e f p t h0 h1 h2 h3 h4 h5) (by rfl) (by rfl) (by rfl), ?_⟩
   | fail
  all_goals (conv => whnf)
  all_goals exact ⟨rfl, rfl⟩
end Go.Proofs.Ythgalldffgaddaa
