/- Chapter 24: what its functions come to (SesL). -/
import Derived.Test.YthgalldffgaddaaSesI
set_option linter.unusedVariables false
set_option linter.unusedSimpArgs false
namespace Go.Proofs.Ythgalldffgaddaa
open Go Go.Vm
set_option maxRecDepth 100000
set_option maxHeartbeats 4000000
set_option linter.unusedSimpArgs false
/-- The cells of the document's sessions. -/
abbrev rcells (k l n : Int) (a b c d e f : Plc) : List V := [.int .i64 k, .int .i64 l, .int .i64 n, .bool a.opn, .int .i64 a.turn, .int .i64 a.ver, .int .i64 a.till, .bool b.opn, .int .i64 b.turn, .int .i64 b.ver, .int .i64 b.till, .bool c.opn, .int .i64 c.turn, .int .i64 c.ver, .int .i64 c.till, .bool d.opn, .int .i64 d.turn, .int .i64 d.ver, .int .i64 d.till, .bool e.opn, .int .i64 e.turn, .int .i64 e.ver, .int .i64 e.till, .bool f.opn, .int .i64 f.turn, .int .i64 f.ver, .int .i64 f.till]
theorem rhas_0 (k l n : Int) (a b c d e f : Plc) (t : Int) : ATriple Try.prog gv noRep 27 [.ref (0, 0) 0, hdl 0 t] [.box (rcells k l n a b c d e f)] (.bool (a.opn && (a.turn == t))) [.box (rcells k l n a b c d e f)] (none) := by
  refine ATriple.of_body (C := cx) Try.func27 rfl (by kernel_rfl) mixed rfl (by simp [okA, okC, okN]) (by simp [okOb, okC, okN, rcells]) (by simp [okG, okA, okC, okN]) (by simp [okOb, okC, okN, rcells]) (fun o ho => by cases ho) fun E hE => ?_
  repeat' (conv => whnf); first
   | (refine bcase_of (fun hr => ?_) (fun hr => ?_) <;> (try simp only [decide_eq_true_eq, decide_eq_false_iff_not, gt_iff_lt, ge_iff_le, beq_iff_eq, beq_eq_false_iff_ne, ne_eq] at hr) <;> try (exfalso; first | omega | (simp_all; done)))
   | (refine And.intro (by first | exact Nat.le_of_ble_eq_true rfl | decide | decide | exact ⟨(by decide : (0 : Int) ≤ 0), (by decide : (0 : Int) < 6)⟩ | exact ⟨(by decide : (0 : Int) ≤ 1), (by decide : (1 : Int) < 6)⟩ | exact ⟨(by decide : (0 : Int) ≤ 2), (by decide : (2 : Int) < 6)⟩ | exact ⟨(by decide : (0 : Int) ≤ 3), (by decide : (3 : Int) < 6)⟩ | exact ⟨(by decide : (0 : Int) ≤ 4), (by decide : (4 : Int) < 6)⟩ | exact ⟨(by decide : (0 : Int) ≤ 5), (by decide : (5 : Int) < 6)⟩) ?_)
   | (refine And.intro (by show indep _ _ = true; kernel_rfl) ?_)
   | (refine Exists.intro _ (And.intro (by first | exact rfl) ?_))
   | fail
  all_goals (conv => whnf)
  all_goals (refine ⟨?_, rfl⟩; simp_all [retOf])
theorem rclose_0 (k l n : Int) (a b c d e f : Plc) (ho : a.opn = true) : ATriple Try.prog gv noRep 15 [.ref (0, 0) 0, hdl 0 a.turn] [.box (rcells k l n a b c d e f)] (i64V 0) [.box (rcells k l n ⟨a.turn, false, a.ver, a.till⟩ b c d e f)] (none) := by
  refine ATriple.of_body (C := cx) Try.func15 rfl (by kernel_rfl) mixed rfl (by simp [okA, okC, okN]) (by simp [okOb, okC, okN, rcells]) (by simp [okG, okA, okC, okN]) (by simp [okOb, okC, okN, rcells]) (fun o ho => by cases ho) fun E hE => ?_
  repeat' (conv => whnf); first
   | (refine bcase_of (fun hr => ?_) (fun hr => ?_) <;> (try simp only [decide_eq_true_eq, decide_eq_false_iff_not, gt_iff_lt, ge_iff_le, beq_iff_eq, beq_eq_false_iff_ne, ne_eq] at hr) <;> try (exfalso; first | omega | (simp_all; done)))
   | (refine And.intro (by first | exact Nat.le_of_ble_eq_true rfl | decide | decide | exact ⟨(by decide : (0 : Int) ≤ 0), (by decide : (0 : Int) < 6)⟩ | exact ⟨(by decide : (0 : Int) ≤ 1), (by decide : (1 : Int) < 6)⟩ | exact ⟨(by decide : (0 : Int) ≤ 2), (by decide : (2 : Int) < 6)⟩ | exact ⟨(by decide : (0 : Int) ≤ 3), (by decide : (3 : Int) < 6)⟩ | exact ⟨(by decide : (0 : Int) ≤ 4), (by decide : (4 : Int) < 6)⟩ | exact ⟨(by decide : (0 : Int) ≤ 5), (by decide : (5 : Int) < 6)⟩) ?_)
   | (refine And.intro (by show indep _ _ = true; kernel_rfl) ?_)
   | (refine Exists.intro _ (And.intro (by first | exact rfl) ?_))
   | refine ⟨_, _, _, ATriple.call (rhas_0 k l n a b c d e f a.turn) (by rfl) (by rfl) (by rfl), ?_⟩
   | fail
  all_goals (conv => whnf)
  all_goals exact ⟨rfl, rfl⟩
theorem rhas_1 (k l n : Int) (a b c d e f : Plc) (t : Int) : ATriple Try.prog gv noRep 27 [.ref (0, 0) 0, hdl 1 t] [.box (rcells k l n a b c d e f)] (.bool (b.opn && (b.turn == t))) [.box (rcells k l n a b c d e f)] (none) := by
  refine ATriple.of_body (C := cx) Try.func27 rfl (by kernel_rfl) mixed rfl (by simp [okA, okC, okN]) (by simp [okOb, okC, okN, rcells]) (by simp [okG, okA, okC, okN]) (by simp [okOb, okC, okN, rcells]) (fun o ho => by cases ho) fun E hE => ?_
  repeat' (conv => whnf); first
   | (refine bcase_of (fun hr => ?_) (fun hr => ?_) <;> (try simp only [decide_eq_true_eq, decide_eq_false_iff_not, gt_iff_lt, ge_iff_le, beq_iff_eq, beq_eq_false_iff_ne, ne_eq] at hr) <;> try (exfalso; first | omega | (simp_all; done)))
   | (refine And.intro (by first | exact Nat.le_of_ble_eq_true rfl | decide | decide | exact ⟨(by decide : (0 : Int) ≤ 0), (by decide : (0 : Int) < 6)⟩ | exact ⟨(by decide : (0 : Int) ≤ 1), (by decide : (1 : Int) < 6)⟩ | exact ⟨(by decide : (0 : Int) ≤ 2), (by decide : (2 : Int) < 6)⟩ | exact ⟨(by decide : (0 : Int) ≤ 3), (by decide : (3 : Int) < 6)⟩ | exact ⟨(by decide : (0 : Int) ≤ 4), (by decide : (4 : Int) < 6)⟩ | exact ⟨(by decide : (0 : Int) ≤ 5), (by decide : (5 : Int) < 6)⟩) ?_)
   | (refine And.intro (by show indep _ _ = true; kernel_rfl) ?_)
   | (refine Exists.intro _ (And.intro (by first | exact rfl) ?_))
   | fail
  all_goals (conv => whnf)
  all_goals (refine ⟨?_, rfl⟩; simp_all [retOf])
theorem rclose_1 (k l n : Int) (a b c d e f : Plc) (ho : b.opn = true) : ATriple Try.prog gv noRep 15 [.ref (0, 0) 0, hdl 1 b.turn] [.box (rcells k l n a b c d e f)] (i64V 0) [.box (rcells k l n a ⟨b.turn, false, b.ver, b.till⟩ c d e f)] (none) := by
  refine ATriple.of_body (C := cx) Try.func15 rfl (by kernel_rfl) mixed rfl (by simp [okA, okC, okN]) (by simp [okOb, okC, okN, rcells]) (by simp [okG, okA, okC, okN]) (by simp [okOb, okC, okN, rcells]) (fun o ho => by cases ho) fun E hE => ?_
  repeat' (conv => whnf); first
   | (refine bcase_of (fun hr => ?_) (fun hr => ?_) <;> (try simp only [decide_eq_true_eq, decide_eq_false_iff_not, gt_iff_lt, ge_iff_le, beq_iff_eq, beq_eq_false_iff_ne, ne_eq] at hr) <;> try (exfalso; first | omega | (simp_all; done)))
   | (refine And.intro (by first | exact Nat.le_of_ble_eq_true rfl | decide | decide | exact ⟨(by decide : (0 : Int) ≤ 0), (by decide : (0 : Int) < 6)⟩ | exact ⟨(by decide : (0 : Int) ≤ 1), (by decide : (1 : Int) < 6)⟩ | exact ⟨(by decide : (0 : Int) ≤ 2), (by decide : (2 : Int) < 6)⟩ | exact ⟨(by decide : (0 : Int) ≤ 3), (by decide : (3 : Int) < 6)⟩ | exact ⟨(by decide : (0 : Int) ≤ 4), (by decide : (4 : Int) < 6)⟩ | exact ⟨(by decide : (0 : Int) ≤ 5), (by decide : (5 : Int) < 6)⟩) ?_)
   | (refine And.intro (by show indep _ _ = true; kernel_rfl) ?_)
   | (refine Exists.intro _ (And.intro (by first | exact rfl) ?_))
   | refine ⟨_, _, _, ATriple.call (rhas_1 k l n a b c d e f b.turn) (by rfl) (by rfl) (by rfl), ?_⟩
   | fail
  all_goals (conv => whnf)
  all_goals exact ⟨rfl, rfl⟩
theorem rhas_2 (k l n : Int) (a b c d e f : Plc) (t : Int) : ATriple Try.prog gv noRep 27 [.ref (0, 0) 0, hdl 2 t] [.box (rcells k l n a b c d e f)] (.bool (c.opn && (c.turn == t))) [.box (rcells k l n a b c d e f)] (none) := by
  refine ATriple.of_body (C := cx) Try.func27 rfl (by kernel_rfl) mixed rfl (by simp [okA, okC, okN]) (by simp [okOb, okC, okN, rcells]) (by simp [okG, okA, okC, okN]) (by simp [okOb, okC, okN, rcells]) (fun o ho => by cases ho) fun E hE => ?_
  repeat' (conv => whnf); first
   | (refine bcase_of (fun hr => ?_) (fun hr => ?_) <;> (try simp only [decide_eq_true_eq, decide_eq_false_iff_not, gt_iff_lt, ge_iff_le, beq_iff_eq, beq_eq_false_iff_ne, ne_eq] at hr) <;> try (exfalso; first | omega | (simp_all; done)))
   | (refine And.intro (by first | exact Nat.le_of_ble_eq_true rfl | decide | decide | exact ⟨(by decide : (0 : Int) ≤ 0), (by decide : (0 : Int) < 6)⟩ | exact ⟨(by decide : (0 : Int) ≤ 1), (by decide : (1 : Int) < 6)⟩ | exact ⟨(by decide : (0 : Int) ≤ 2), (by decide : (2 : Int) < 6)⟩ | exact ⟨(by decide : (0 : Int) ≤ 3), (by decide : (3 : Int) < 6)⟩ | exact ⟨(by decide : (0 : Int) ≤ 4), (by decide : (4 : Int) < 6)⟩ | exact ⟨(by decide : (0 : Int) ≤ 5), (by decide : (5 : Int) < 6)⟩) ?_)
   | (refine And.intro (by show indep _ _ = true; kernel_rfl) ?_)
   | (refine Exists.intro _ (And.intro (by first | exact rfl) ?_))
   | fail
  all_goals (conv => whnf)
  all_goals (refine ⟨?_, rfl⟩; simp_all [retOf])
theorem rclose_2 (k l n : Int) (a b c d e f : Plc) (ho : c.opn = true) : ATriple Try.prog gv noRep 15 [.ref (0, 0) 0, hdl 2 c.turn] [.box (rcells k l n a b c d e f)] (i64V 0) [.box (rcells k l n a b ⟨c.turn, false, c.ver, c.till⟩ d e f)] (none) := by
  refine ATriple.of_body (C := cx) Try.func15 rfl (by kernel_rfl) mixed rfl (by simp [okA, okC, okN]) (by simp [okOb, okC, okN, rcells]) (by simp [okG, okA, okC, okN]) (by simp [okOb, okC, okN, rcells]) (fun o ho => by cases ho) fun E hE => ?_
  repeat' (conv => whnf); first
   | (refine bcase_of (fun hr => ?_) (fun hr => ?_) <;> (try simp only [decide_eq_true_eq, decide_eq_false_iff_not, gt_iff_lt, ge_iff_le, beq_iff_eq, beq_eq_false_iff_ne, ne_eq] at hr) <;> try (exfalso; first | omega | (simp_all; done)))
   | (refine And.intro (by first | exact Nat.le_of_ble_eq_true rfl | decide | decide | exact ⟨(by decide : (0 : Int) ≤ 0), (by decide : (0 : Int) < 6)⟩ | exact ⟨(by decide : (0 : Int) ≤ 1), (by decide : (1 : Int) < 6)⟩ | exact ⟨(by decide : (0 : Int) ≤ 2), (by decide : (2 : Int) < 6)⟩ | exact ⟨(by decide : (0 : Int) ≤ 3), (by decide : (3 : Int) < 6)⟩ | exact ⟨(by decide : (0 : Int) ≤ 4), (by decide : (4 : Int) < 6)⟩ | exact ⟨(by decide : (0 : Int) ≤ 5), (by decide : (5 : Int) < 6)⟩) ?_)
   | (refine And.intro (by show indep _ _ = true; kernel_rfl) ?_)
   | (refine Exists.intro _ (And.intro (by first | exact rfl) ?_))
   | refine ⟨_, _, _, ATriple.call (rhas_2 k l n a b c d e f c.turn) (by rfl) (by rfl) (by rfl), ?_⟩
   | fail
  all_goals (conv => whnf)
  all_goals exact ⟨rfl, rfl⟩
theorem rhas_3 (k l n : Int) (a b c d e f : Plc) (t : Int) : ATriple Try.prog gv noRep 27 [.ref (0, 0) 0, hdl 3 t] [.box (rcells k l n a b c d e f)] (.bool (d.opn && (d.turn == t))) [.box (rcells k l n a b c d e f)] (none) := by
  refine ATriple.of_body (C := cx) Try.func27 rfl (by kernel_rfl) mixed rfl (by simp [okA, okC, okN]) (by simp [okOb, okC, okN, rcells]) (by simp [okG, okA, okC, okN]) (by simp [okOb, okC, okN, rcells]) (fun o ho => by cases ho) fun E hE => ?_
  repeat' (conv => whnf); first
   | (refine bcase_of (fun hr => ?_) (fun hr => ?_) <;> (try simp only [decide_eq_true_eq, decide_eq_false_iff_not, gt_iff_lt, ge_iff_le, beq_iff_eq, beq_eq_false_iff_ne, ne_eq] at hr) <;> try (exfalso; first | omega | (simp_all; done)))
   | (refine And.intro (by first | exact Nat.le_of_ble_eq_true rfl | decide | decide | exact ⟨(by decide : (0 : Int) ≤ 0), (by decide : (0 : Int) < 6)⟩ | exact ⟨(by decide : (0 : Int) ≤ 1), (by decide : (1 : Int) < 6)⟩ | exact ⟨(by decide : (0 : Int) ≤ 2), (by decide : (2 : Int) < 6)⟩ | exact ⟨(by decide : (0 : Int) ≤ 3), (by decide : (3 : Int) < 6)⟩ | exact ⟨(by decide : (0 : Int) ≤ 4), (by decide : (4 : Int) < 6)⟩ | exact ⟨(by decide : (0 : Int) ≤ 5), (by decide : (5 : Int) < 6)⟩) ?_)
   | (refine And.intro (by show indep _ _ = true; kernel_rfl) ?_)
   | (refine Exists.intro _ (And.intro (by first | exact rfl) ?_))
   | fail
  all_goals (conv => whnf)
  all_goals (refine ⟨?_, rfl⟩; simp_all [retOf])
theorem rclose_3 (k l n : Int) (a b c d e f : Plc) (ho : d.opn = true) : ATriple Try.prog gv noRep 15 [.ref (0, 0) 0, hdl 3 d.turn] [.box (rcells k l n a b c d e f)] (i64V 0) [.box (rcells k l n a b c ⟨d.turn, false, d.ver, d.till⟩ e f)] (none) := by
  refine ATriple.of_body (C := cx) Try.func15 rfl (by kernel_rfl) mixed rfl (by simp [okA, okC, okN]) (by simp [okOb, okC, okN, rcells]) (by simp [okG, okA, okC, okN]) (by simp [okOb, okC, okN, rcells]) (fun o ho => by cases ho) fun E hE => ?_
  repeat' (conv => whnf); first
   | (refine bcase_of (fun hr => ?_) (fun hr => ?_) <;> (try simp only [decide_eq_true_eq, decide_eq_false_iff_not, gt_iff_lt, ge_iff_le, beq_iff_eq, beq_eq_false_iff_ne, ne_eq] at hr) <;> try (exfalso; first | omega | (simp_all; done)))
   | (refine And.intro (by first | exact Nat.le_of_ble_eq_true rfl | decide | decide | exact ⟨(by decide : (0 : Int) ≤ 0), (by decide : (0 : Int) < 6)⟩ | exact ⟨(by decide : (0 : Int) ≤ 1), (by decide : (1 : Int) < 6)⟩ | exact ⟨(by decide : (0 : Int) ≤ 2), (by decide : (2 : Int) < 6)⟩ | exact ⟨(by decide : (0 : Int) ≤ 3), (by decide : (3 : Int) < 6)⟩ | exact ⟨(by decide : (0 : Int) ≤ 4), (by decide : (4 : Int) < 6)⟩ | exact ⟨(by decide : (0 : Int) ≤ 5), (by decide : (5 : Int) < 6)⟩) ?_)
   | (refine And.intro (by show indep _ _ = true; kernel_rfl) ?_)
   | (refine Exists.intro _ (And.intro (by first | exact rfl) ?_))
   | refine ⟨_, _, _, ATriple.call (rhas_3 k l n a b c d e f d.turn) (by rfl) (by rfl) (by rfl), ?_⟩
   | fail
  all_goals (conv => whnf)
  all_goals exact ⟨rfl, rfl⟩
theorem rhas_4 (k l n : Int) (a b c d e f : Plc) (t : Int) : ATriple Try.prog gv noRep 27 [.ref (0, 0) 0, hdl 4 t] [.box (rcells k l n a b c d e f)] (.bool (e.opn && (e.turn == t))) [.box (rcells k l n a b c d e f)] (none) := by
  refine ATriple.of_body (C := cx) Try.func27 rfl (by kernel_rfl) mixed rfl (by simp [okA, okC, okN]) (by simp [okOb, okC, okN, rcells]) (by simp [okG, okA, okC, okN]) (by simp [okOb, okC, okN, rcells]) (fun o ho => by cases ho) fun E hE => ?_
  repeat' (conv => whnf); first
   | (refine bcase_of (fun hr => ?_) (fun hr => ?_) <;> (try simp only [decide_eq_true_eq, decide_eq_false_iff_not, gt_iff_lt, ge_iff_le, beq_iff_eq, beq_eq_false_iff_ne, ne_eq] at hr) <;> try (exfalso; first | omega | (simp_all; done)))
   | (refine And.intro (by first | exact Nat.le_of_ble_eq_true rfl | decide | decide | exact ⟨(by decide : (0 : Int) ≤ 0), (by decide : (0 : Int) < 6)⟩ | exact ⟨(by decide : (0 : Int) ≤ 1), (by decide : (1 : Int) < 6)⟩ | exact ⟨(by decide : (0 : Int) ≤ 2), (by decide : (2 : Int) < 6)⟩ | exact ⟨(by decide : (0 : Int) ≤ 3), (by decide : (3 : Int) < 6)⟩ | exact ⟨(by decide : (0 : Int) ≤ 4), (by decide : (4 : Int) < 6)⟩ | exact ⟨(by decide : (0 : Int) ≤ 5), (by decide : (5 : Int) < 6)⟩) ?_)
   | (refine And.intro (by show indep _ _ = true; kernel_rfl) ?_)
   | (refine Exists.intro _ (And.intro (by first | exact rfl) ?_))
   | fail
  all_goals (conv => whnf)
  all_goals (refine ⟨?_, rfl⟩; simp_all [retOf])
theorem rclose_4 (k l n : Int) (a b c d e f : Plc) (ho : e.opn = true) : ATriple Try.prog gv noRep 15 [.ref (0, 0) 0, hdl 4 e.turn] [.box (rcells k l n a b c d e f)] (i64V 0) [.box (rcells k l n a b c d ⟨e.turn, false, e.ver, e.till⟩ f)] (none) := by
  refine ATriple.of_body (C := cx) Try.func15 rfl (by kernel_rfl) mixed rfl (by simp [okA, okC, okN]) (by simp [okOb, okC, okN, rcells]) (by simp [okG, okA, okC, okN]) (by simp [okOb, okC, okN, rcells]) (fun o ho => by cases ho) fun E hE => ?_
  repeat' (conv => whnf); first
   | (refine bcase_of (fun hr => ?_) (fun hr => ?_) <;> (try simp only [decide_eq_true_eq, decide_eq_false_iff_not, gt_iff_lt, ge_iff_le, beq_iff_eq, beq_eq_false_iff_ne, ne_eq] at hr) <;> try (exfalso; first | omega | (simp_all; done)))
   | (refine And.intro (by first | exact Nat.le_of_ble_eq_true rfl | decide | decide | exact ⟨(by decide : (0 : Int) ≤ 0), (by decide : (0 : Int) < 6)⟩ | exact ⟨(by decide : (0 : Int) ≤ 1), (by decide : (1 : Int) < 6)⟩ | exact ⟨(by decide : (0 : Int) ≤ 2), (by decide : (2 : Int) < 6)⟩ | exact ⟨(by decide : (0 : Int) ≤ 3), (by decide : (3 : Int) < 6)⟩ | exact ⟨(by decide : (0 : Int) ≤ 4), (by decide : (4 : Int) < 6)⟩ | exact ⟨(by decide : (0 : Int) ≤ 5), (by decide : (5 : Int) < 6)⟩) ?_)
   | (refine And.intro (by show indep _ _ = true; kernel_rfl) ?_)
   | (refine Exists.intro _ (And.intro (by first | exact rfl) ?_))
   | refine ⟨_, _, _, ATriple.call (rhas_4 k l n a b c d e f e.turn) (by rfl) (by rfl) (by rfl), ?_⟩
   | fail
  all_goals (conv => whnf)
  all_goals exact ⟨rfl, rfl⟩
theorem rhas_5 (k l n : Int) (a b c d e f : Plc) (t : Int) : ATriple Try.prog gv noRep 27 [.ref (0, 0) 0, hdl 5 t] [.box (rcells k l n a b c d e f)] (.bool (f.opn && (f.turn == t))) [.box (rcells k l n a b c d e f)] (none) := by
  refine ATriple.of_body (C := cx) Try.func27 rfl (by kernel_rfl) mixed rfl (by simp [okA, okC, okN]) (by simp [okOb, okC, okN, rcells]) (by simp [okG, okA, okC, okN]) (by simp [okOb, okC, okN, rcells]) (fun o ho => by cases ho) fun E hE => ?_
  repeat' (conv => whnf); first
   | (refine bcase_of (fun hr => ?_) (fun hr => ?_) <;> (try simp only [decide_eq_true_eq, decide_eq_false_iff_not, gt_iff_lt, ge_iff_le, beq_iff_eq, beq_eq_false_iff_ne, ne_eq] at hr) <;> try (exfalso; first | omega | (simp_all; done)))
   | (refine And.intro (by first | exact Nat.le_of_ble_eq_true rfl | decide | decide | exact ⟨(by decide : (0 : Int) ≤ 0), (by decide : (0 : Int) < 6)⟩ | exact ⟨(by decide : (0 : Int) ≤ 1), (by decide : (1 : Int) < 6)⟩ | exact ⟨(by decide : (0 : Int) ≤ 2), (by decide : (2 : Int) < 6)⟩ | exact ⟨(by decide : (0 : Int) ≤ 3), (by decide : (3 : Int) < 6)⟩ | exact ⟨(by decide : (0 : Int) ≤ 4), (by decide : (4 : Int) < 6)⟩ | exact ⟨(by decide : (0 : Int) ≤ 5), (by decide : (5 : Int) < 6)⟩) ?_)
   | (refine And.intro (by show indep _ _ = true; kernel_rfl) ?_)
   | (refine Exists.intro _ (And.intro (by first | exact rfl) ?_))
   | fail
  all_goals (conv => whnf)
  all_goals (refine ⟨?_, rfl⟩; simp_all [retOf])
theorem rclose_5 (k l n : Int) (a b c d e f : Plc) (ho : f.opn = true) : ATriple Try.prog gv noRep 15 [.ref (0, 0) 0, hdl 5 f.turn] [.box (rcells k l n a b c d e f)] (i64V 0) [.box (rcells k l n a b c d e ⟨f.turn, false, f.ver, f.till⟩)] (none) := by
  refine ATriple.of_body (C := cx) Try.func15 rfl (by kernel_rfl) mixed rfl (by simp [okA, okC, okN]) (by simp [okOb, okC, okN, rcells]) (by simp [okG, okA, okC, okN]) (by simp [okOb, okC, okN, rcells]) (fun o ho => by cases ho) fun E hE => ?_
  repeat' (conv => whnf); first
   | (refine bcase_of (fun hr => ?_) (fun hr => ?_) <;> (try simp only [decide_eq_true_eq, decide_eq_false_iff_not, gt_iff_lt, ge_iff_le, beq_iff_eq, beq_eq_false_iff_ne, ne_eq] at hr) <;> try (exfalso; first | omega | (simp_all; done)))
   | (refine And.intro (by first | exact Nat.le_of_ble_eq_true rfl | decide | decide | exact ⟨(by decide : (0 : Int) ≤ 0), (by decide : (0 : Int) < 6)⟩ | exact ⟨(by decide : (0 : Int) ≤ 1), (by decide : (1 : Int) < 6)⟩ | exact ⟨(by decide : (0 : Int) ≤ 2), (by decide : (2 : Int) < 6)⟩ | exact ⟨(by decide : (0 : Int) ≤ 3), (by decide : (3 : Int) < 6)⟩ | exact ⟨(by decide : (0 : Int) ≤ 4), (by decide : (4 : Int) < 6)⟩ | exact ⟨(by decide : (0 : Int) ≤ 5), (by decide : (5 : Int) < 6)⟩) ?_)
   | (refine And.intro (by show indep _ _ = true; kernel_rfl) ?_)
   | (refine Exists.intro _ (And.intro (by first | exact rfl) ?_))
   | refine ⟨_, _, _, ATriple.call (rhas_5 k l n a b c d e f f.turn) (by rfl) (by rfl) (by rfl), ?_⟩
   | fail
  all_goals (conv => whnf)
  all_goals exact ⟨rfl, rfl⟩
theorem rhas_out (k l n : Int) (a b c d e f : Plc) (p t : Int) (hp : p < 0 ∨ 6 ≤ p) : ATriple Try.prog gv noRep 27 [.ref (0, 0) 0, hdl p t] [.box (rcells k l n a b c d e f)] (.bool false) [.box (rcells k l n a b c d e f)] (none) := by
  refine ATriple.of_body (C := cx) Try.func27 rfl (by kernel_rfl) mixed rfl (by simp [okA, okC, okN]) (by simp [okOb, okC, okN, rcells]) (by simp [okG, okA, okC, okN]) (by simp [okOb, okC, okN, rcells]) (fun o ho => by cases ho) fun E hE => ?_
  repeat' (conv => whnf); first
   | (refine bcase_of (fun hr => ?_) (fun hr => ?_) <;> (try simp only [decide_eq_true_eq, decide_eq_false_iff_not, gt_iff_lt, ge_iff_le, beq_iff_eq, beq_eq_false_iff_ne, ne_eq] at hr) <;> try (exfalso; first | omega | (simp_all; done)))
   | (refine And.intro (by first | exact Nat.le_of_ble_eq_true rfl | decide | decide | exact ⟨(by decide : (0 : Int) ≤ 0), (by decide : (0 : Int) < 6)⟩ | exact ⟨(by decide : (0 : Int) ≤ 1), (by decide : (1 : Int) < 6)⟩ | exact ⟨(by decide : (0 : Int) ≤ 2), (by decide : (2 : Int) < 6)⟩ | exact ⟨(by decide : (0 : Int) ≤ 3), (by decide : (3 : Int) < 6)⟩ | exact ⟨(by decide : (0 : Int) ≤ 4), (by decide : (4 : Int) < 6)⟩ | exact ⟨(by decide : (0 : Int) ≤ 5), (by decide : (5 : Int) < 6)⟩) ?_)
   | (refine And.intro (by show indep _ _ = true; kernel_rfl) ?_)
   | (refine Exists.intro _ (And.intro (by first | exact rfl) ?_))
   | fail
  all_goals (conv => whnf)
  all_goals exact ⟨rfl, rfl⟩
end Go.Proofs.Ythgalldffgaddaa
