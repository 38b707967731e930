/- Chapter 24: what its functions come to (SesR). -/
import Derived.Test.YthgalldffgaddaaSesQ
set_option linter.unusedVariables false
set_option linter.unusedSimpArgs false
namespace Go.Proofs.Ythgalldffgaddaa
open Go Go.Vm
set_option maxRecDepth 100000
set_option maxHeartbeats 4000000
set_option linter.unusedSimpArgs false
theorem nil_tick (m : Int) : ATriple Try.prog gv noRep 16 [.nilp, i64V m] [] (.tup []) [] (none) := by
  refine ATriple.of_body (C := cx) Try.func16 rfl (by kernel_rfl) mixed rfl (by simp [okA, okC, okN]) (by simp [okOb, okC, okN, cells, plc]) (by simp [okG, okA, okC, okN]) (by simp [okOb, okC, okN, cells, plc]) (fun o ho => by cases ho) fun E hE => ?_
  repeat' (conv => whnf); first
   | (refine bcase_of (fun hr => ?_) (fun hr => ?_) <;> (try simp only [decide_eq_true_eq, decide_eq_false_iff_not] at hr) <;> try (exfalso; first | omega | (simp at hr; done)))
   | (refine And.intro (by first | exact Nat.le_of_ble_eq_true rfl | decide) ?_)
   | (refine And.intro (by show indep _ _ = true; kernel_rfl) ?_)
   | (refine Exists.intro _ (And.intro (by first | exact rfl) ?_))
   | fail
  all_goals (conv => whnf)
  all_goals exact ⟨rfl, rfl⟩
theorem nil_open (v : Int) : ATriple Try.prog gv noRep 12 [.nilp, i64V v] [] (.tup [hdl 0 0, i64V 1]) [] (none) := by
  refine ATriple.of_body (C := cx) Try.func12 rfl (by kernel_rfl) mixed rfl (by simp [okA, okC, okN]) (by simp [okOb, okC, okN, cells, plc]) (by simp [okG, okA, okC, okN]) (by simp [okOb, okC, okN, cells, plc]) (fun o ho => by cases ho) fun E hE => ?_
  repeat' (conv => whnf); first
   | (refine bcase_of (fun hr => ?_) (fun hr => ?_) <;> (try simp only [decide_eq_true_eq, decide_eq_false_iff_not] at hr) <;> try (exfalso; first | omega | (simp at hr; done)))
   | (refine And.intro (by first | exact Nat.le_of_ble_eq_true rfl | decide) ?_)
   | (refine And.intro (by show indep _ _ = true; kernel_rfl) ?_)
   | (refine Exists.intro _ (And.intro (by first | exact rfl) ?_))
   | fail
  all_goals (conv => whnf)
  all_goals exact ⟨rfl, rfl⟩
theorem nil_find (p t : Int) : ATriple Try.prog gv noRep 26 [.nilp, hdl p t] [] (.nilp) [] (none) := by
  refine ATriple.of_body (C := cx) Try.func26 rfl (by kernel_rfl) mixed rfl (by simp [okA, okC, okN]) (by simp [okOb, okC, okN, cells, plc]) (by simp [okG, okA, okC, okN]) (by simp [okOb, okC, okN, cells, plc]) (fun o ho => by cases ho) fun E hE => ?_
  repeat' (conv => whnf); first
   | (refine bcase_of (fun hr => ?_) (fun hr => ?_) <;> (try simp only [decide_eq_true_eq, decide_eq_false_iff_not] at hr) <;> try (exfalso; first | omega | (simp at hr; done)))
   | (refine And.intro (by first | exact Nat.le_of_ble_eq_true rfl | decide) ?_)
   | (refine And.intro (by show indep _ _ = true; kernel_rfl) ?_)
   | (refine Exists.intro _ (And.intro (by first | exact rfl) ?_))
   | fail
  all_goals (conv => whnf)
  all_goals exact ⟨rfl, rfl⟩
theorem nil_look (p t : Int) : ATriple Try.prog gv noRep 24 [.nilp, hdl p t] [] (.tup [i64V 0, .bool false]) [] (none) := by
  refine ATriple.of_body (C := cx) Try.func24 rfl (by kernel_rfl) mixed rfl (by simp [okA, okC, okN]) (by simp [okOb, okC, okN, cells, plc]) (by simp [okG, okA, okC, okN]) (by simp [okOb, okC, okN, cells, plc]) (fun o ho => by cases ho) fun E hE => ?_
  repeat' (conv => whnf); first
   | (refine bcase_of (fun hr => ?_) (fun hr => ?_) <;> (try simp only [decide_eq_true_eq, decide_eq_false_iff_not] at hr) <;> try (exfalso; first | omega | (simp at hr; done)))
   | (refine And.intro (by first | exact Nat.le_of_ble_eq_true rfl | decide) ?_)
   | (refine And.intro (by show indep _ _ = true; kernel_rfl) ?_)
   | (refine Exists.intro _ (And.intro (by first | exact rfl) ?_))
   | refine ⟨_, _, _, ATriple.call (nil_find p t) (by rfl) (by rfl) (by rfl), ?_⟩
   | fail
  all_goals (conv => whnf)
  all_goals exact ⟨rfl, rfl⟩
theorem nil_read (p t dn : Int) : ATriple Try.prog gv noRep 23 [.nilp, hdl p t, i64V dn] [] (.tup [i64V 0, i64V 1]) [] (none) := by
  refine ATriple.of_body (C := cx) Try.func23 rfl (by kernel_rfl) mixed rfl (by simp [okA, okC, okN]) (by simp [okOb, okC, okN, cells, plc]) (by simp [okG, okA, okC, okN]) (by simp [okOb, okC, okN, cells, plc]) (fun o ho => by cases ho) fun E hE => ?_
  repeat' (conv => whnf); first
   | (refine bcase_of (fun hr => ?_) (fun hr => ?_) <;> (try simp only [decide_eq_true_eq, decide_eq_false_iff_not] at hr) <;> try (exfalso; first | omega | (simp at hr; done)))
   | (refine And.intro (by first | exact Nat.le_of_ble_eq_true rfl | decide) ?_)
   | (refine And.intro (by show indep _ _ = true; kernel_rfl) ?_)
   | (refine Exists.intro _ (And.intro (by first | exact rfl) ?_))
   | fail
  all_goals (conv => whnf)
  all_goals exact ⟨rfl, rfl⟩
theorem nil_close (p t : Int) : ATriple Try.prog gv noRep 14 [.nilp, hdl p t] [] (i64V 1) [] (none) := by
  refine ATriple.of_body (C := cx) Try.func14 rfl (by kernel_rfl) mixed rfl (by simp [okA, okC, okN]) (by simp [okOb, okC, okN, cells, plc]) (by simp [okG, okA, okC, okN]) (by simp [okOb, okC, okN, cells, plc]) (fun o ho => by cases ho) fun E hE => ?_
  repeat' (conv => whnf); first
   | (refine bcase_of (fun hr => ?_) (fun hr => ?_) <;> (try simp only [decide_eq_true_eq, decide_eq_false_iff_not] at hr) <;> try (exfalso; first | omega | (simp at hr; done)))
   | (refine And.intro (by first | exact Nat.le_of_ble_eq_true rfl | decide) ?_)
   | (refine And.intro (by show indep _ _ = true; kernel_rfl) ?_)
   | (refine Exists.intro _ (And.intro (by first | exact rfl) ?_))
   | fail
  all_goals (conv => whnf)
  all_goals exact ⟨rfl, rfl⟩
theorem nil_now  : ATriple Try.prog gv noRep 19 [.nilp] [] (i64V 0) [] (none) := by
  refine ATriple.of_body (C := cx) Try.func19 rfl (by kernel_rfl) mixed rfl (by simp [okA, okC, okN]) (by simp [okOb, okC, okN, cells, plc]) (by simp [okG, okA, okC, okN]) (by simp [okOb, okC, okN, cells, plc]) (fun o ho => by cases ho) fun E hE => ?_
  repeat' (conv => whnf); first
   | (refine bcase_of (fun hr => ?_) (fun hr => ?_) <;> (try simp only [decide_eq_true_eq, decide_eq_false_iff_not] at hr) <;> try (exfalso; first | omega | (simp at hr; done)))
   | (refine And.intro (by first | exact Nat.le_of_ble_eq_true rfl | decide) ?_)
   | (refine And.intro (by show indep _ _ = true; kernel_rfl) ?_)
   | (refine Exists.intro _ (And.intro (by first | exact rfl) ?_))
   | fail
  all_goals (conv => whnf)
  all_goals exact ⟨rfl, rfl⟩
theorem nil_len  : ATriple Try.prog gv noRep 20 [.nilp] [] (i64V 0) [] (none) := by
  refine ATriple.of_body (C := cx) Try.func20 rfl (by kernel_rfl) mixed rfl (by simp [okA, okC, okN]) (by simp [okOb, okC, okN, cells, plc]) (by simp [okG, okA, okC, okN]) (by simp [okOb, okC, okN, cells, plc]) (fun o ho => by cases ho) fun E hE => ?_
  repeat' (conv => whnf); first
   | (refine bcase_of (fun hr => ?_) (fun hr => ?_) <;> (try simp only [decide_eq_true_eq, decide_eq_false_iff_not] at hr) <;> try (exfalso; first | omega | (simp at hr; done)))
   | (refine And.intro (by first | exact Nat.le_of_ble_eq_true rfl | decide) ?_)
   | (refine And.intro (by show indep _ _ = true; kernel_rfl) ?_)
   | (refine Exists.intro _ (And.intro (by first | exact rfl) ?_))
   | fail
  all_goals (conv => whnf)
  all_goals exact ⟨rfl, rfl⟩
theorem none_ok (p t : Int) : PTriple Try.prog gv 22 [hdl p t] (.bool true) := by
  refine PTriple.of_body (C := cx) Try.func22 rfl (by kernel_rfl) mixed fun E hE => ?_
  repeat' (conv => whnf); first
   | (refine bcase_of (fun hr => ?_) (fun hr => ?_) <;> (try simp only [decide_eq_true_eq, decide_eq_false_iff_not] at hr) <;> try (exfalso; first | omega | (simp at hr; done)))
   | (refine And.intro (by first | exact Nat.le_of_ble_eq_true rfl | decide) ?_)
   | (refine And.intro (by show indep _ _ = true; kernel_rfl) ?_)
   | (refine Exists.intro _ (And.intro (by first | exact rfl) ?_))
   | refine ⟨_, _, _, ATriple.call (nil_tick 1) (by rfl) (by rfl) (by rfl), ?_⟩
   | refine ⟨_, _, _, ATriple.call (nil_open 0) (by rfl) (by rfl) (by rfl), ?_⟩
   | refine ⟨_, _, _, ATriple.call (nil_look p t) (by rfl) (by rfl) (by rfl), ?_⟩
   | refine ⟨_, _, _, ATriple.call (nil_read p t 0) (by rfl) (by rfl) (by rfl), ?_⟩
   | refine ⟨_, _, _, ATriple.call (nil_close p t) (by rfl) (by rfl) (by rfl), ?_⟩
   | refine ⟨_, _, _, ATriple.call (nil_now) (by rfl) (by rfl) (by rfl), ?_⟩
   | refine ⟨_, _, _, ATriple.call (nil_len) (by rfl) (by rfl) (by rfl), ?_⟩
   | fail
  all_goals (conv => whnf)
  all_goals rfl
theorem new_bad (k l : Int) (hk : ¬ (2 ≤ k ∧ k ≤ 8 ∧ 1 ≤ l ∧ l ≤ 1048576)) : ATriple Try.prog gv noRep 9 [i64V k, i64V l] [] (.nilp) [] (none) := by
  refine ATriple.of_body (C := cx) Try.func9 rfl (by kernel_rfl) mixed rfl (by simp [okA, okC, okN]) (by simp [okOb, okC, okN, cells, plc]) (by simp [okG, okA, okC, okN]) (by simp [okOb, okC, okN, cells, plc]) (fun o ho => by cases ho) fun E hE => ?_
  repeat' (conv => whnf); first
   | (refine bcase_of (fun hr => ?_) (fun hr => ?_) <;> (try simp only [decide_eq_true_eq, decide_eq_false_iff_not, gt_iff_lt] at hr) <;> try (exfalso; omega))
   | (refine And.intro (by first | exact Nat.le_of_ble_eq_true rfl | decide) ?_)
   | (refine And.intro (by show indep _ _ = true; kernel_rfl) ?_)
   | (refine Exists.intro _ (And.intro (by first | exact rfl) ?_))
   | fail
  all_goals (conv => whnf)
  all_goals exact ⟨rfl, rfl⟩
theorem good_ok (k l : Int) : PTriple Try.prog gv 10 [i64V k, i64V l] (.bool (decide (2 ≤ k ∧ k ≤ 8 ∧ 1 ≤ l ∧ l ≤ 1048576))) := by
  refine PTriple.of_body (C := cx) Try.func10 rfl (by kernel_rfl) mixed fun E hE => ?_
  repeat' (conv => whnf); first
   | (refine bcase_of (fun hr => ?_) (fun hr => ?_) <;> (try simp only [decide_eq_true_eq, decide_eq_false_iff_not, ge_iff_le] at hr))
   | (refine And.intro (by first | exact Nat.le_of_ble_eq_true rfl | decide) ?_)
   | (refine And.intro (by show indep _ _ = true; kernel_rfl) ?_)
   | (refine Exists.intro _ (And.intro (by first | exact rfl) ?_))
   | fail
  all_goals (conv => whnf)
  all_goals (first | exact congrArg V.bool (decide_eq_true (show _ by omega)).symm | exact congrArg V.bool (decide_eq_false (show _ by omega)).symm)
theorem Rp.closed {q r : Plc} (h : Rp q r) : Rp ⟨q.turn, false, 0, 0⟩ ⟨r.turn, false, r.ver, r.till⟩ := ⟨rfl, h.turn, fun h => by cases h⟩
theorem Rp.made {s w : Ss} (h : Rs s w) {q r : Plc} (hq : Rp q r) {v : Int} (hv : 0 ≤ v) : Rp (opened s q v) (opened w r v) := ⟨rfl, by simp only [opened, hq.turn], fun _ => ⟨rfl, by simp only [opened, h.n, h.l], hv⟩⟩
theorem open_same {s w : Ss} (h : Rs s w) (v : Int) : openP s v = openP w v ∧ openT s v = openT w v ∧ openE s v = openE w v := by
  simp only [openP, openT, openE, h.a.opn, h.b.opn, h.c.opn, h.d.opn, h.e.opn, h.f.opn, h.a.turn, h.b.turn, h.c.turn, h.d.turn, h.e.turn, h.f.turn, and_self]
theorem open_rs {s w : Ss} (h : Rs s w) (v : Int) : Rs (openS s v) (openS w v) := by
  unfold openS
  simp only [h.a.opn, h.b.opn, h.c.opn, h.d.opn, h.e.opn, h.f.opn]
  by_cases hv : v < 0
  · simp only [if_pos hv]; exact h
  have hv0 : 0 ≤ v := by omega
  simp only [if_neg hv]
  by_cases h0 : w.a.opn = false
  · simp only [if_pos h0]
    exact { h with a := Rp.made h h.a hv0 }
  by_cases h1 : w.b.opn = false
  · simp only [if_pos h1, if_neg h0]
    exact { h with b := Rp.made h h.b hv0 }
  by_cases h2 : w.c.opn = false
  · simp only [if_pos h2, if_neg h0, if_neg h1]
    exact { h with c := Rp.made h h.c hv0 }
  by_cases h3 : w.d.opn = false
  · simp only [if_pos h3, if_neg h0, if_neg h1, if_neg h2]
    exact { h with d := Rp.made h h.d hv0 }
  by_cases h4 : w.e.opn = false
  · simp only [if_pos h4, if_neg h0, if_neg h1, if_neg h2, if_neg h3]
    exact { h with e := Rp.made h h.e hv0 }
  by_cases h5 : w.f.opn = false
  · simp only [if_pos h5, if_neg h0, if_neg h1, if_neg h2, if_neg h3, if_neg h4]
    exact { h with f := Rp.made h h.f hv0 }
  simp only [if_neg h0, if_neg h1, if_neg h2, if_neg h3, if_neg h4, if_neg h5]
  exact h
theorem close_rs {s w : Ss} (h : Rs s w) (p t : Int) : closeE s p t = closeE w p t ∧ Rs (closeS s p t) (rcloseS w p t) := by
  simp only [closeE, closeS, rcloseS, h.a.opn, h.b.opn, h.c.opn, h.d.opn, h.e.opn, h.f.opn, h.a.turn, h.b.turn, h.c.turn, h.d.turn, h.e.turn, h.f.turn, true_and]
  by_cases h0 : w.a.opn = true ∧ p = 0 ∧ t = w.a.turn
  · simp only [if_pos h0]
    exact { h with a := by have := h.a.closed; rwa [h.a.turn] at this }
  by_cases h1 : w.b.opn = true ∧ p = 1 ∧ t = w.b.turn
  · simp only [if_pos h1, if_neg h0]
    exact { h with b := by have := h.b.closed; rwa [h.b.turn] at this }
  by_cases h2 : w.c.opn = true ∧ p = 2 ∧ t = w.c.turn
  · simp only [if_pos h2, if_neg h0, if_neg h1]
    exact { h with c := by have := h.c.closed; rwa [h.c.turn] at this }
  by_cases h3 : w.d.opn = true ∧ p = 3 ∧ t = w.d.turn
  · simp only [if_pos h3, if_neg h0, if_neg h1, if_neg h2]
    exact { h with d := by have := h.d.closed; rwa [h.d.turn] at this }
  by_cases h4 : w.e.opn = true ∧ p = 4 ∧ t = w.e.turn
  · simp only [if_pos h4, if_neg h0, if_neg h1, if_neg h2, if_neg h3]
    exact { h with e := by have := h.e.closed; rwa [h.e.turn] at this }
  by_cases h5 : w.f.opn = true ∧ p = 5 ∧ t = w.f.turn
  · simp only [if_pos h5, if_neg h0, if_neg h1, if_neg h2, if_neg h3, if_neg h4]
    exact { h with f := by have := h.f.closed; rwa [h.f.turn] at this }
  simp only [if_neg h0, if_neg h1, if_neg h2, if_neg h3, if_neg h4, if_neg h5]
  exact h
theorem tick_rs {s w : Ss} (h : Rs s w) (m : Int) : Rs { s with n := tickT s.n m } { w with n := tickT w.n m } := { h with n := by simp only [h.n], nin := tick_in w.n m h.nin }
theorem len_same {s w : Ss} (h : Rs s w) : lenTo s.a s.b s.c s.d s.e s.f 6 = lenTo w.a w.b w.c w.d w.e w.f 6 := by
  simp only [lenTo, h.a.opn, h.b.opn, h.c.opn, h.d.opn, h.e.opn, h.f.opn]
end Go.Proofs.Ythgalldffgaddaa
