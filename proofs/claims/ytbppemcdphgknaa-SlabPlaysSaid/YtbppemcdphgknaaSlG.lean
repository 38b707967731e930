/- Chapter 14: the slab: New, Len, Pages, of no slab. -/
import Derived.Test.YtbppemcdphgknaaSlF
set_option linter.unusedVariables false
set_option linter.unusedSimpArgs false
namespace Go.Proofs.Ytbppemcdphgknaa
open Go Go.Vm
set_option maxRecDepth 100000
set_option maxHeartbeats 40000000
set_option linter.unusedSimpArgs false
set_option linter.unusedVariables false
theorem len_ok (cap taken low : Int) (ps : List (List Pl)) : ATriple Try.prog gv R0 15 [.ref (0, 0) 0] [.abs (slD cap taken low ps)] (i64V taken) [.abs (slD cap taken low ps)] (none) := by
  refine ATriple.of_bodyW (C := cx3) Try.func15 rfl (by kernel_rfl) (mixedOf _) rfl (by simp [okA, okC, okN, pure_E, pure_nil]) (by simp [okOb, okC, okN, pure_E]) (by simp [okG, okA, okC, okN, pure_E, pure_nil]) (by simp [okOb, okC, okN, pure_E]) (fun o ho => by cases ho) 1 [.opn (0, 0) [9]] fun E hE => ?_
  repeat' (conv => whnf); first
   | (refine bcase_of (fun hr => ?_) (fun hr => ?_) <;> try (exfalso; simp at hr; done))
   | (apply And.intro; · first | exact Nat.le_of_ble_eq_true rfl | (show indep _ _ = true; kernel_rfl) | decide | exact ⟨by decide, by decide⟩ | exact ⟨Nat.le_of_ble_eq_true rfl, allOne_of rfl⟩ | exact ⟨rfl, rfl⟩)
   | (apply Exists.intro; apply And.intro; · first | exact rfl)
   | fail
  all_goals refine ⟨[.shut (0, 0) (slD (cap) (taken) (low) (ps))], ?_⟩
  all_goals (conv => whnf)
  all_goals refine ⟨shut_sl (10, 1) (cap) (taken) (low) _ (rfl) (by simp), ?_⟩
  all_goals (conv => whnf)
  all_goals exact ⟨rfl, rfl⟩
theorem pages_ok (cap taken low : Int) (ps : List (List Pl)) : ATriple Try.prog gv R0 16 [.ref (0, 0) 0] [.abs (slD cap taken low ps)] (i64V ps.length) [.abs (slD cap taken low ps)] (none) := by
  refine ATriple.of_bodyW (C := cx3) Try.func16 rfl (by kernel_rfl) (mixedOf _) rfl (by simp [okA, okC, okN, pure_E, pure_nil]) (by simp [okOb, okC, okN, pure_E]) (by simp [okG, okA, okC, okN, pure_E, pure_nil]) (by simp [okOb, okC, okN, pure_E]) (fun o ho => by cases ho) 1 [.opn (0, 0) [10]] fun E hE => ?_
  repeat' (conv => whnf); first
   | (refine bcase_of (fun hr => ?_) (fun hr => ?_) <;> try (exfalso; simp at hr; done))
   | (apply And.intro; · first | exact Nat.le_of_ble_eq_true rfl | (show indep _ _ = true; kernel_rfl) | decide | exact ⟨by decide, by decide⟩ | exact ⟨Nat.le_of_ble_eq_true rfl, allOne_of rfl⟩ | exact ⟨rfl, rfl⟩)
   | (apply Exists.intro; apply And.intro; · first | exact rfl)
   | fail
  all_goals refine ⟨[.shut (0, 0) (slD (cap) (taken) (low) (ps))], ?_⟩
  all_goals (conv => whnf)
  all_goals refine ⟨shut_sl (11, 1) (cap) (taken) (low) _ (rfl) (by simp), ?_⟩
  all_goals (conv => whnf)
  all_goals exact ⟨rfl, rfl⟩
theorem len_nil  : ATriple Try.prog gv R0 15 [.nilp] [] (i64V 0) [] (none) := by
  refine ATriple.of_bodyW (C := cx3) Try.func15 rfl (by kernel_rfl) (mixedOf _) rfl (by simp [okA, okC, okN, pure_E, pure_nil]) (by simp [okOb, okC, okN, pure_E]) (by simp [okG, okA, okC, okN, pure_E, pure_nil]) (by simp [okOb, okC, okN, pure_E]) (fun o ho => by cases ho) 0 [] fun E hE => ?_
  repeat' (conv => whnf); first
   | (refine bcase_of (fun hr => ?_) (fun hr => ?_) <;> try (exfalso; simp at hr; done))
   | (apply And.intro; · first | exact Nat.le_of_ble_eq_true rfl | (show indep _ _ = true; kernel_rfl) | decide | exact ⟨by decide, by decide⟩ | exact ⟨Nat.le_of_ble_eq_true rfl, allOne_of rfl⟩)
   | (apply Exists.intro; apply And.intro; · first | exact rfl)
   | fail
  all_goals refine ⟨[], ?_⟩
  all_goals (conv => whnf)
  all_goals exact ⟨rfl, rfl⟩
theorem pages_nil  : ATriple Try.prog gv R0 16 [.nilp] [] (i64V 0) [] (none) := by
  refine ATriple.of_bodyW (C := cx3) Try.func16 rfl (by kernel_rfl) (mixedOf _) rfl (by simp [okA, okC, okN, pure_E, pure_nil]) (by simp [okOb, okC, okN, pure_E]) (by simp [okG, okA, okC, okN, pure_E, pure_nil]) (by simp [okOb, okC, okN, pure_E]) (fun o ho => by cases ho) 0 [] fun E hE => ?_
  repeat' (conv => whnf); first
   | (refine bcase_of (fun hr => ?_) (fun hr => ?_) <;> try (exfalso; simp at hr; done))
   | (apply And.intro; · first | exact Nat.le_of_ble_eq_true rfl | (show indep _ _ = true; kernel_rfl) | decide | exact ⟨by decide, by decide⟩ | exact ⟨Nat.le_of_ble_eq_true rfl, allOne_of rfl⟩)
   | (apply Exists.intro; apply And.intro; · first | exact rfl)
   | fail
  all_goals refine ⟨[], ?_⟩
  all_goals (conv => whnf)
  all_goals exact ⟨rfl, rfl⟩
theorem take_nil  : ATriple Try.prog gv R0 13 [.nilp] [] (.tup [i64V 0, .bool false]) [] (none) := by
  refine ATriple.of_bodyW (C := cx3) Try.func13 rfl (by kernel_rfl) (mixedOf _) rfl (by simp [okA, okC, okN, pure_E, pure_nil]) (by simp [okOb, okC, okN, pure_E]) (by simp [okG, okA, okC, okN, pure_E, pure_nil]) (by simp [okOb, okC, okN, pure_E]) (fun o ho => by cases ho) 0 [] fun E hE => ?_
  repeat' (conv => whnf); first
   | (refine bcase_of (fun hr => ?_) (fun hr => ?_) <;> try (exfalso; simp at hr; done))
   | (apply And.intro; · first | exact Nat.le_of_ble_eq_true rfl | (show indep _ _ = true; kernel_rfl) | decide | exact ⟨by decide, by decide⟩ | exact ⟨Nat.le_of_ble_eq_true rfl, allOne_of rfl⟩)
   | (apply Exists.intro; apply And.intro; · first | exact rfl)
   | fail
  all_goals refine ⟨[], ?_⟩
  all_goals (conv => whnf)
  all_goals exact ⟨rfl, rfl⟩
theorem at_nil (i : Int) : ATriple Try.prog gv R0 42 [.nilp, i64V i] [] (.nilp) [] (none) := by
  refine ATriple.of_bodyW (C := cx3) Try.func42 rfl (by kernel_rfl) (mixedOf _) rfl (by simp [okA, okC, okN, pure_E, pure_nil]) (by simp [okOb, okC, okN, pure_E]) (by simp [okG, okA, okC, okN, pure_E, pure_nil]) (by simp [okOb, okC, okN, pure_E]) (fun o ho => by cases ho) 0 [] fun E hE => ?_
  repeat' (conv => whnf); first
   | (refine bcase_of (fun hr => ?_) (fun hr => ?_) <;> try (exfalso; simp at hr; done))
   | (apply And.intro; · first | exact Nat.le_of_ble_eq_true rfl | (show indep _ _ = true; kernel_rfl) | decide | exact ⟨by decide, by decide⟩ | exact ⟨Nat.le_of_ble_eq_true rfl, allOne_of rfl⟩)
   | (apply Exists.intro; apply And.intro; · first | exact rfl)
   | fail
  all_goals refine ⟨[], ?_⟩
  all_goals (conv => whnf)
  all_goals exact ⟨rfl, rfl⟩
theorem put_nil (i : Int) : ATriple Try.prog gv R0 22 [.nilp, i64V i, .nils] [] (.bool false) [] (none) := by
  refine ATriple.of_bodyW (C := cx3) Try.func22 rfl (by kernel_rfl) (mixedOf _) rfl (by simp [okA, okC, okN, pure_E, pure_nil]) (by simp [okOb, okC, okN, pure_E]) (by simp [okG, okA, okC, okN, pure_E, pure_nil]) (by simp [okOb, okC, okN, pure_E]) (fun o ho => by cases ho) 0 [] fun E hE => ?_
  repeat' (conv => whnf); first
   | (refine bcase_of (fun hr => ?_) (fun hr => ?_) <;> try (exfalso; simp at hr; done))
   | (apply And.intro; · first | exact Nat.le_of_ble_eq_true rfl | (show indep _ _ = true; kernel_rfl) | decide | exact ⟨by decide, by decide⟩ | exact ⟨Nat.le_of_ble_eq_true rfl, allOne_of rfl⟩)
   | (apply Exists.intro; apply And.intro; · first | exact rfl)
   | (apply Exists.intro; apply Exists.intro; apply Exists.intro; apply And.intro; · first | (apply ATriple.callN (at_nil i) <;> rfl))
   | fail
  all_goals refine ⟨[], ?_⟩
  all_goals (conv => whnf)
  all_goals exact ⟨rfl, rfl⟩
theorem get_nil0 (i : Int) : ATriple Try.prog gv R0 24 [.nilp, i64V i] [] (.tup [.nils, .bool false]) [] (none) := by
  refine ATriple.of_bodyW (C := cx3) Try.func24 rfl (by kernel_rfl) (mixedOf _) rfl (by simp [okA, okC, okN, pure_E, pure_nil]) (by simp [okOb, okC, okN, pure_E]) (by simp [okG, okA, okC, okN, pure_E, pure_nil]) (by simp [okOb, okC, okN, pure_E]) (fun o ho => by cases ho) 0 [] fun E hE => ?_
  repeat' (conv => whnf); first
   | (refine bcase_of (fun hr => ?_) (fun hr => ?_) <;> try (exfalso; simp at hr; done))
   | (apply And.intro; · first | exact Nat.le_of_ble_eq_true rfl | (show indep _ _ = true; kernel_rfl) | decide | exact ⟨by decide, by decide⟩ | exact ⟨Nat.le_of_ble_eq_true rfl, allOne_of rfl⟩)
   | (apply Exists.intro; apply And.intro; · first | exact rfl)
   | (apply Exists.intro; apply Exists.intro; apply Exists.intro; apply And.intro; · first | (apply ATriple.callN (at_nil i) <;> rfl))
   | fail
  all_goals refine ⟨[], ?_⟩
  all_goals (conv => whnf)
  all_goals exact ⟨rfl, rfl⟩
theorem free_nil (i : Int) : ATriple Try.prog gv R0 14 [.nilp, i64V i] [] (.bool false) [] (none) := by
  refine ATriple.of_bodyW (C := cx3) Try.func14 rfl (by kernel_rfl) (mixedOf _) rfl (by simp [okA, okC, okN, pure_E, pure_nil]) (by simp [okOb, okC, okN, pure_E]) (by simp [okG, okA, okC, okN, pure_E, pure_nil]) (by simp [okOb, okC, okN, pure_E]) (fun o ho => by cases ho) 0 [] fun E hE => ?_
  repeat' (conv => whnf); first
   | (refine bcase_of (fun hr => ?_) (fun hr => ?_) <;> try (exfalso; simp at hr; done))
   | (apply And.intro; · first | exact Nat.le_of_ble_eq_true rfl | (show indep _ _ = true; kernel_rfl) | decide | exact ⟨by decide, by decide⟩ | exact ⟨Nat.le_of_ble_eq_true rfl, allOne_of rfl⟩)
   | (apply Exists.intro; apply And.intro; · first | exact rfl)
   | (apply Exists.intro; apply Exists.intro; apply Exists.intro; apply And.intro; · first | (apply ATriple.callN (at_nil i) <;> rfl))
   | fail
  all_goals refine ⟨[], ?_⟩
  all_goals (conv => whnf)
  all_goals exact ⟨rfl, rfl⟩
/-- How many there is room for. -/
def capOf (n : Int) : Int := if (if 2000 < n then 2000 else n) > 0 then (if 2000 < n then 2000 else n) else 0
theorem new_ok (n : Int) : ATriple Try.prog gv R0 12 [i64V n] [] (.ref (0, 0) 0) [] (some (.abs (slD (capOf n) 0 0 []))) := by
  refine ATriple.of_bodyW (C := cx3) Try.func12 rfl (by kernel_rfl) (mixedOf _) rfl (by simp [okA, okC, okN, pure_E, pure_nil]) (by simp [okOb, okC, okN, pure_E]) (by simp [okG, okA, okC, okN, pure_E, pure_nil]) (by simp [okOb, okC, okN, pure_E]) (fun o ho => by cases ho; exact ⟨trivial, rfl⟩) 1 [] fun E hE => ?_
  repeat' (conv => whnf); first
   | (refine bcase_of (fun hr => ?_) (fun hr => ?_) <;> try (exfalso; simp at hr; done))
   | (apply And.intro; · first | exact Nat.le_of_ble_eq_true rfl | (show indep _ _ = true; kernel_rfl) | decide | exact ⟨by decide, by decide⟩ | exact ⟨Nat.le_of_ble_eq_true rfl, allOne_of rfl⟩)
   | (apply Exists.intro; apply And.intro; · first | exact rfl)
   | fail
  all_goals refine ⟨[.nilp (8, 1) 3 8, .shut (8, 1) (slD (capOf n) 0 0 [])], ?_⟩
  all_goals (conv => whnf)
  all_goals refine ⟨rfl, ?_⟩
  all_goals (conv => whnf)
  all_goals refine ⟨shut_sl (9, 1) (capOf n) 0 0 [] rfl rfl, ?_⟩
  all_goals (conv => whnf)
  all_goals exact ⟨(8, 1), by decide, rfl, rfl, rfl, rfl⟩
end Go.Proofs.Ytbppemcdphgknaa
