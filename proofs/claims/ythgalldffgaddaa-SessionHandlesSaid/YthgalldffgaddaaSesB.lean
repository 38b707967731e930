/- Chapter 24: what its functions come to (SesB). -/
import Derived.Test.YthgalldffgaddaaSesA
set_option linter.unusedVariables false
set_option linter.unusedSimpArgs false
namespace Go.Proofs.Ythgalldffgaddaa
open Go Go.Vm
set_option maxRecDepth 100000
set_option maxHeartbeats 4000000
set_option linter.unusedSimpArgs false
theorem open_0 (k l n : Int) (a b c d e f : Plc) (v : Int) (hv : 0 ≤ v) (ho : a.opn = false) : ATriple Try.prog gv noRep 12 [.ref (0, 0) 0, i64V v] [.box (cells k l n a b c d e f)] (.tup [hdl 0 (IntKind.i64.wrap (a.turn + 1)), i64V 0]) [.box (cells k l n ⟨IntKind.i64.wrap (a.turn + 1), true, v, IntKind.i64.wrap (n + l)⟩ b c d e f)] (none) := by
  refine ATriple.of_body (C := cx) Try.func12 rfl (by kernel_rfl) mixed rfl (by simp [okA, okC, okN]) (by simp [okOb, okC, okN, cells, plc]) (by simp [okG, okA, okC, okN]) (by simp [okOb, okC, okN, cells, plc]) (fun o ho => by cases ho) fun E hE => ?_
  repeat' (conv => whnf); first
   | (refine bcase_of (fun hr => ?_) (fun hr => ?_) <;> (try simp only [decide_eq_true_eq, decide_eq_false_iff_not, gt_iff_lt, ge_iff_le] at hr) <;> try (exfalso; first | omega | (simp_all; done)))
   | (refine And.intro (by first | exact Nat.le_of_ble_eq_true rfl | decide | decide | exact ⟨(by decide), (by decide)⟩) ?_)
   | (refine And.intro (by show indep _ _ = true; kernel_rfl) ?_)
   | (refine Exists.intro _ (And.intro (by first | exact rfl) ?_))
   | refine ⟨_, _, _, ATriple.call (handle_0 k l n ⟨IntKind.i64.wrap (a.turn + 1), true, v, IntKind.i64.wrap (n + l)⟩ b c d e f) (by rfl) (by rfl) (by rfl), ?_⟩
   | refine VLoop.unroll hE mixed ?_
   | fail
  all_goals (conv => whnf)
  all_goals exact ⟨rfl, rfl⟩
theorem find_closed (k l n : Int) (a b c d e f : Plc) (p t : Int) (ha : a.opn = false) (hb : b.opn = false) (hc : c.opn = false) (hd : d.opn = false) (he : e.opn = false) (hf : f.opn = false) : ATriple Try.prog gv noRep 26 [.ref (0, 0) 0, hdl p t] [.box (cells k l n a b c d e f)] (.nilp) [.box (cells k l n a b c d e f)] (none) := by
  refine ATriple.of_body (C := cx) Try.func26 rfl (by kernel_rfl) mixed rfl (by simp [okA, okC, okN]) (by simp [okOb, okC, okN, cells, plc]) (by simp [okG, okA, okC, okN]) (by simp [okOb, okC, okN, cells, plc]) (fun o ho => by cases ho) fun E hE => ?_
  repeat' (conv => whnf); first
   | (refine bcase_of (fun hr => ?_) (fun hr => ?_) <;> (try simp only [decide_eq_true_eq, decide_eq_false_iff_not, gt_iff_lt, ge_iff_le] at hr) <;> try (exfalso; first | omega | (simp_all; done)))
   | (refine And.intro (by first | exact Nat.le_of_ble_eq_true rfl | decide | decide | exact ⟨(by decide), (by decide)⟩ | exact ⟨(by decide : (0 : Int) ≤ 0), (by decide : (0 : Int) < 6)⟩ | exact ⟨(by decide : (0 : Int) ≤ 1), (by decide : (1 : Int) < 6)⟩ | exact ⟨(by decide : (0 : Int) ≤ 2), (by decide : (2 : Int) < 6)⟩ | exact ⟨(by decide : (0 : Int) ≤ 3), (by decide : (3 : Int) < 6)⟩ | exact ⟨(by decide : (0 : Int) ≤ 4), (by decide : (4 : Int) < 6)⟩ | exact ⟨(by decide : (0 : Int) ≤ 5), (by decide : (5 : Int) < 6)⟩) ?_)
   | (refine And.intro (by show indep _ _ = true; kernel_rfl) ?_)
   | (refine Exists.intro _ (And.intro (by first | exact rfl) ?_))
   | refine VLoop.unroll hE mixed ?_
   | fail
  all_goals (conv => whnf)
  all_goals exact ⟨rfl, rfl⟩
theorem close_0 (k l n : Int) (a b c d e f : Plc) (ho : a.opn = true) : ATriple Try.prog gv noRep 14 [.ref (0, 0) 0, hdl 0 a.turn] [.box (cells k l n a b c d e f)] (i64V 0) [.box (cells k l n ⟨a.turn, false, 0, 0⟩ b c d e f)] (none) := by
  refine ATriple.of_body (C := cx) Try.func14 rfl (by kernel_rfl) mixed rfl (by simp [okA, okC, okN]) (by simp [okOb, okC, okN, cells, plc]) (by simp [okG, okA, okC, okN]) (by simp [okOb, okC, okN, cells, plc]) (fun o ho => by cases ho) fun E hE => ?_
  repeat' (conv => whnf); first
   | (refine bcase_of (fun hr => ?_) (fun hr => ?_) <;> (try simp only [decide_eq_true_eq, decide_eq_false_iff_not, gt_iff_lt, ge_iff_le] at hr) <;> try (exfalso; first | omega | (simp_all; done)))
   | (refine And.intro (by first | exact Nat.le_of_ble_eq_true rfl | decide) ?_)
   | (refine And.intro (by show indep _ _ = true; kernel_rfl) ?_)
   | (refine Exists.intro _ (And.intro (by first | exact rfl) ?_))
   | refine ⟨_, _, _, ATriple.call (find_0 k l n a b c d e f ho) (by rfl) (by rfl) (by rfl), ?_⟩
   | fail
  all_goals (conv => whnf)
  all_goals exact ⟨rfl, rfl⟩
theorem look_0 (k l n : Int) (a b c d e f : Plc) (ho : a.opn = true) : ATriple Try.prog gv noRep 24 [.ref (0, 0) 0, hdl 0 a.turn] [.box (cells k l n a b c d e f)] (.tup [i64V a.ver, .bool true]) [.box (cells k l n a b c d e f)] (none) := by
  refine ATriple.of_body (C := cx) Try.func24 rfl (by kernel_rfl) mixed rfl (by simp [okA, okC, okN]) (by simp [okOb, okC, okN, cells, plc]) (by simp [okG, okA, okC, okN]) (by simp [okOb, okC, okN, cells, plc]) (fun o ho => by cases ho) fun E hE => ?_
  repeat' (conv => whnf); first
   | (refine bcase_of (fun hr => ?_) (fun hr => ?_) <;> (try simp only [decide_eq_true_eq, decide_eq_false_iff_not, gt_iff_lt, ge_iff_le] at hr) <;> try (exfalso; first | omega | (simp_all; done)))
   | (refine And.intro (by first | exact Nat.le_of_ble_eq_true rfl | decide) ?_)
   | (refine And.intro (by show indep _ _ = true; kernel_rfl) ?_)
   | (refine Exists.intro _ (And.intro (by first | exact rfl) ?_))
   | refine ⟨_, _, _, ATriple.call (find_0 k l n a b c d e f ho) (by rfl) (by rfl) (by rfl), ?_⟩
   | fail
  all_goals (conv => whnf)
  all_goals exact ⟨rfl, rfl⟩
theorem read_0 (k l n : Int) (a b c d e f : Plc) (dn : Int) (ho : a.opn = true) (h : ¬ (k ≤ dn ∧ a.ver ≤ IntKind.i64.wrap (dn - k)) ∧ ¬ a.till < n) : ATriple Try.prog gv noRep 23 [.ref (0, 0) 0, hdl 0 a.turn, i64V dn] [.box (cells k l n a b c d e f)] (.tup [i64V a.ver, i64V 0]) [.box (cells k l n a b c d e f)] (none) := by
  refine ATriple.of_body (C := cx) Try.func23 rfl (by kernel_rfl) mixed rfl (by simp [okA, okC, okN]) (by simp [okOb, okC, okN, cells, plc]) (by simp [okG, okA, okC, okN]) (by simp [okOb, okC, okN, cells, plc]) (fun o ho => by cases ho) fun E hE => ?_
  repeat' (conv => whnf); first
   | (refine bcase_of (fun hr => ?_) (fun hr => ?_) <;> (try simp only [decide_eq_true_eq, decide_eq_false_iff_not, gt_iff_lt, ge_iff_le] at hr) <;> try (exfalso; first | omega | (simp_all; done)))
   | (refine And.intro (by first | exact Nat.le_of_ble_eq_true rfl | decide) ?_)
   | (refine And.intro (by show indep _ _ = true; kernel_rfl) ?_)
   | (refine Exists.intro _ (And.intro (by first | exact rfl) ?_))
   | refine ⟨_, _, _, ATriple.call (find_0 k l n a b c d e f ho) (by rfl) (by rfl) (by rfl), ?_⟩
   | fail
  all_goals (conv => whnf)
  all_goals exact ⟨rfl, rfl⟩
theorem read_0x (k l n : Int) (a b c d e f : Plc) (dn : Int) (ho : a.opn = true) (h : (k ≤ dn ∧ a.ver ≤ IntKind.i64.wrap (dn - k)) ∨ a.till < n) : ATriple Try.prog gv noRep 23 [.ref (0, 0) 0, hdl 0 a.turn, i64V dn] [.box (cells k l n a b c d e f)] (.tup [i64V 0, i64V 12]) [.box (cells k l n a b c d e f)] (none) := by
  refine ATriple.of_body (C := cx) Try.func23 rfl (by kernel_rfl) mixed rfl (by simp [okA, okC, okN]) (by simp [okOb, okC, okN, cells, plc]) (by simp [okG, okA, okC, okN]) (by simp [okOb, okC, okN, cells, plc]) (fun o ho => by cases ho) fun E hE => ?_
  repeat' (conv => whnf); first
   | (refine bcase_of (fun hr => ?_) (fun hr => ?_) <;> (try simp only [decide_eq_true_eq, decide_eq_false_iff_not, gt_iff_lt, ge_iff_le] at hr) <;> try (exfalso; first | omega | (simp_all; done)))
   | (refine And.intro (by first | exact Nat.le_of_ble_eq_true rfl | decide) ?_)
   | (refine And.intro (by show indep _ _ = true; kernel_rfl) ?_)
   | (refine Exists.intro _ (And.intro (by first | exact rfl) ?_))
   | refine ⟨_, _, _, ATriple.call (find_0 k l n a b c d e f ho) (by rfl) (by rfl) (by rfl), ?_⟩
   | fail
  all_goals (conv => whnf)
  all_goals exact ⟨rfl, rfl⟩
theorem read_closed (k l n : Int) (a b c d e f : Plc) (dn p t : Int) (ha : a.opn = false) (hb : b.opn = false) (hc : c.opn = false) (hd : d.opn = false) (he : e.opn = false) (hf : f.opn = false) : ATriple Try.prog gv noRep 23 [.ref (0, 0) 0, hdl p t, i64V dn] [.box (cells k l n a b c d e f)] (.tup [i64V 0, i64V 11]) [.box (cells k l n a b c d e f)] (none) := by
  refine ATriple.of_body (C := cx) Try.func23 rfl (by kernel_rfl) mixed rfl (by simp [okA, okC, okN]) (by simp [okOb, okC, okN, cells, plc]) (by simp [okG, okA, okC, okN]) (by simp [okOb, okC, okN, cells, plc]) (fun o ho => by cases ho) fun E hE => ?_
  repeat' (conv => whnf); first
   | (refine bcase_of (fun hr => ?_) (fun hr => ?_) <;> (try simp only [decide_eq_true_eq, decide_eq_false_iff_not, gt_iff_lt, ge_iff_le] at hr) <;> try (exfalso; first | omega | (simp_all; done)))
   | (refine And.intro (by first | exact Nat.le_of_ble_eq_true rfl | decide) ?_)
   | (refine And.intro (by show indep _ _ = true; kernel_rfl) ?_)
   | (refine Exists.intro _ (And.intro (by first | exact rfl) ?_))
   | refine ⟨_, _, _, ATriple.call (find_closed k l n a b c d e f p t ha hb hc hd he hf) (by rfl) (by rfl) (by rfl), ?_⟩
   | fail
  all_goals (conv => whnf)
  all_goals exact ⟨rfl, rfl⟩
theorem len_1 (k l n : Int) (a b c d e f : Plc) (ha : a.opn = true) (hb : b.opn = false) (hc : c.opn = false) (hd : d.opn = false) (he : e.opn = false) (hf : f.opn = false) : ATriple Try.prog gv noRep 20 [.ref (0, 0) 0] [.box (cells k l n a b c d e f)] (i64V 1) [.box (cells k l n a b c d e f)] (none) := by
  refine ATriple.of_body (C := cx) Try.func20 rfl (by kernel_rfl) mixed rfl (by simp [okA, okC, okN]) (by simp [okOb, okC, okN, cells, plc]) (by simp [okG, okA, okC, okN]) (by simp [okOb, okC, okN, cells, plc]) (fun o ho => by cases ho) fun E hE => ?_
  repeat' (conv => whnf); first
   | (refine bcase_of (fun hr => ?_) (fun hr => ?_) <;> (try simp only [decide_eq_true_eq, decide_eq_false_iff_not, gt_iff_lt, ge_iff_le] at hr) <;> try (exfalso; first | omega | (simp_all; done)))
   | (refine And.intro (by first | exact Nat.le_of_ble_eq_true rfl | decide | decide | exact ⟨(by decide), (by decide)⟩ | exact ⟨(by decide : (0 : Int) ≤ 0), (by decide : (0 : Int) < 6)⟩ | exact ⟨(by decide : (0 : Int) ≤ 1), (by decide : (1 : Int) < 6)⟩ | exact ⟨(by decide : (0 : Int) ≤ 2), (by decide : (2 : Int) < 6)⟩ | exact ⟨(by decide : (0 : Int) ≤ 3), (by decide : (3 : Int) < 6)⟩ | exact ⟨(by decide : (0 : Int) ≤ 4), (by decide : (4 : Int) < 6)⟩ | exact ⟨(by decide : (0 : Int) ≤ 5), (by decide : (5 : Int) < 6)⟩) ?_)
   | (refine And.intro (by show indep _ _ = true; kernel_rfl) ?_)
   | (refine Exists.intro _ (And.intro (by first | exact rfl) ?_))
   | refine VLoop.unroll hE mixed ?_
   | fail
  all_goals (conv => whnf)
  all_goals exact ⟨rfl, rfl⟩
end Go.Proofs.Ythgalldffgaddaa
