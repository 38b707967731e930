/- Chapter 24: what its functions come to (SesQ). -/
import Derived.Test.YthgalldffgaddaaSesP
set_option linter.unusedVariables false
set_option linter.unusedSimpArgs false
namespace Go.Proofs.Ythgalldffgaddaa
open Go Go.Vm
set_option maxRecDepth 100000
set_option maxHeartbeats 4000000
set_option linter.unusedSimpArgs false
theorem none_facts {s w : Ss} (h : Rs s w) {p t : Int} (hb : hasB w p t = false) (dn : Int) : lookN s p t = 0 ∧ lookB s p t = false ∧ readN s p t dn = 0 ∧ readE s p t dn = 11 := by
  have n0 : ¬ (s.a.opn = true ∧ p = 0 ∧ t = s.a.turn) := by
    rintro ⟨h1, rfl, h3⟩
    simp [hasB, ← h.a.opn, h1, ← h.a.turn, h3] at hb
  have n1 : ¬ (s.b.opn = true ∧ p = 1 ∧ t = s.b.turn) := by
    rintro ⟨h1, rfl, h3⟩
    simp [hasB, ← h.b.opn, h1, ← h.b.turn, h3] at hb
  have n2 : ¬ (s.c.opn = true ∧ p = 2 ∧ t = s.c.turn) := by
    rintro ⟨h1, rfl, h3⟩
    simp [hasB, ← h.c.opn, h1, ← h.c.turn, h3] at hb
  have n3 : ¬ (s.d.opn = true ∧ p = 3 ∧ t = s.d.turn) := by
    rintro ⟨h1, rfl, h3⟩
    simp [hasB, ← h.d.opn, h1, ← h.d.turn, h3] at hb
  have n4 : ¬ (s.e.opn = true ∧ p = 4 ∧ t = s.e.turn) := by
    rintro ⟨h1, rfl, h3⟩
    simp [hasB, ← h.e.opn, h1, ← h.e.turn, h3] at hb
  have n5 : ¬ (s.f.opn = true ∧ p = 5 ∧ t = s.f.turn) := by
    rintro ⟨h1, rfl, h3⟩
    simp [hasB, ← h.f.opn, h1, ← h.f.turn, h3] at hb
  simp only [lookN, lookB, readN, readE, if_neg n0, if_neg n1, if_neg n2, if_neg n3, if_neg n4, if_neg n5, and_self]
theorem has_facts0 {s w : Ss} (h : Rs s w) {t : Int} (hb : hasB w 0 t = true) (dn : Int) : s.a.opn = true ∧ lookN s 0 t = w.a.ver ∧ lookB s 0 t = true ∧ readN s 0 t dn = (if over s s.a dn then 0 else w.a.ver) ∧ readE s 0 t dn = (if over s s.a dn then 12 else 0) := by
  have h1 : w.a.opn = true ∧ w.a.turn = t := by simpa [hasB] using hb
  have h2 : s.a.opn = true := h.a.opn.trans h1.1
  have h3 : t = s.a.turn := h1.2.symm.trans h.a.turn.symm
  have h4 := (h.a.ver h2).1
  simp [lookN, lookB, readN, readE, h2, h3, h4]
theorem has_facts1 {s w : Ss} (h : Rs s w) {t : Int} (hb : hasB w 1 t = true) (dn : Int) : s.b.opn = true ∧ lookN s 1 t = w.b.ver ∧ lookB s 1 t = true ∧ readN s 1 t dn = (if over s s.b dn then 0 else w.b.ver) ∧ readE s 1 t dn = (if over s s.b dn then 12 else 0) := by
  have h1 : w.b.opn = true ∧ w.b.turn = t := by simpa [hasB] using hb
  have h2 : s.b.opn = true := h.b.opn.trans h1.1
  have h3 : t = s.b.turn := h1.2.symm.trans h.b.turn.symm
  have h4 := (h.b.ver h2).1
  simp [lookN, lookB, readN, readE, h2, h3, h4]
theorem has_facts2 {s w : Ss} (h : Rs s w) {t : Int} (hb : hasB w 2 t = true) (dn : Int) : s.c.opn = true ∧ lookN s 2 t = w.c.ver ∧ lookB s 2 t = true ∧ readN s 2 t dn = (if over s s.c dn then 0 else w.c.ver) ∧ readE s 2 t dn = (if over s s.c dn then 12 else 0) := by
  have h1 : w.c.opn = true ∧ w.c.turn = t := by simpa [hasB] using hb
  have h2 : s.c.opn = true := h.c.opn.trans h1.1
  have h3 : t = s.c.turn := h1.2.symm.trans h.c.turn.symm
  have h4 := (h.c.ver h2).1
  simp [lookN, lookB, readN, readE, h2, h3, h4]
theorem has_facts3 {s w : Ss} (h : Rs s w) {t : Int} (hb : hasB w 3 t = true) (dn : Int) : s.d.opn = true ∧ lookN s 3 t = w.d.ver ∧ lookB s 3 t = true ∧ readN s 3 t dn = (if over s s.d dn then 0 else w.d.ver) ∧ readE s 3 t dn = (if over s s.d dn then 12 else 0) := by
  have h1 : w.d.opn = true ∧ w.d.turn = t := by simpa [hasB] using hb
  have h2 : s.d.opn = true := h.d.opn.trans h1.1
  have h3 : t = s.d.turn := h1.2.symm.trans h.d.turn.symm
  have h4 := (h.d.ver h2).1
  simp [lookN, lookB, readN, readE, h2, h3, h4]
theorem has_facts4 {s w : Ss} (h : Rs s w) {t : Int} (hb : hasB w 4 t = true) (dn : Int) : s.e.opn = true ∧ lookN s 4 t = w.e.ver ∧ lookB s 4 t = true ∧ readN s 4 t dn = (if over s s.e dn then 0 else w.e.ver) ∧ readE s 4 t dn = (if over s s.e dn then 12 else 0) := by
  have h1 : w.e.opn = true ∧ w.e.turn = t := by simpa [hasB] using hb
  have h2 : s.e.opn = true := h.e.opn.trans h1.1
  have h3 : t = s.e.turn := h1.2.symm.trans h.e.turn.symm
  have h4 := (h.e.ver h2).1
  simp [lookN, lookB, readN, readE, h2, h3, h4]
theorem has_facts5 {s w : Ss} (h : Rs s w) {t : Int} (hb : hasB w 5 t = true) (dn : Int) : s.f.opn = true ∧ lookN s 5 t = w.f.ver ∧ lookB s 5 t = true ∧ readN s 5 t dn = (if over s s.f dn then 0 else w.f.ver) ∧ readE s 5 t dn = (if over s s.f dn then 12 else 0) := by
  have h1 : w.f.opn = true ∧ w.f.turn = t := by simpa [hasB] using hb
  have h2 : s.f.opn = true := h.f.opn.trans h1.1
  have h3 : t = s.f.turn := h1.2.symm.trans h.f.turn.symm
  have h4 := (h.f.ver h2).1
  simp [lookN, lookB, readN, readE, h2, h3, h4]
theorem has_in {w : Ss} {p t : Int} (hb : hasB w p t = true) : p = 0 ∨ p = 1 ∨ p = 2 ∨ p = 3 ∨ p = 4 ∨ p = 5 := by
  unfold hasB at hb
  (repeat' split at hb) <;> first | omega | cases hb
theorem told_none {s w : Ss} (h : Rs s w) (p : Int) (t dn : Int) (hb : hasB w p t = false) : ATriple Try.prog gv noRep 18 [.ref (0, 0) 0, .ref (0, 1) 0, hdl p t, i64V dn] [.box (cellsS s), .box (rcellsS w)] (.bool true) [.box (cellsS s), .box (rcellsS w)] none := by
  obtain ⟨f1, f2, f3, f4⟩ := none_facts h hb dn
  refine ATriple.of_body (C := cx) Try.func18 rfl (by kernel_rfl) mixed rfl (by simp [okA, okC, okN]) (by simp [okOb, okC, okN, cells, plc, rcells]) (by simp [okG, okA, okC, okN]) (by simp [okOb, okC, okN, cells, plc, rcells]) (fun o ho => by cases ho) fun E hE => ?_
  repeat' (conv => whnf); first
   | (refine bcase_of (fun hr => ?_) (fun hr => ?_) <;> (try simp only [hb, f1, f2, f3, f4, bne_self_eq_false, beq_self_eq_true] at hr) <;> try (exfalso; simp at hr; done))
   | (refine And.intro (by first | exact Nat.le_of_ble_eq_true rfl | decide | decide | exact ⟨(by decide : (0 : Int) ≤ 0), (by decide : (0 : Int) < 6)⟩ | exact ⟨(by decide : (0 : Int) ≤ 1), (by decide : (1 : Int) < 6)⟩ | exact ⟨(by decide : (0 : Int) ≤ 2), (by decide : (2 : Int) < 6)⟩ | exact ⟨(by decide : (0 : Int) ≤ 3), (by decide : (3 : Int) < 6)⟩ | exact ⟨(by decide : (0 : Int) ≤ 4), (by decide : (4 : Int) < 6)⟩ | exact ⟨(by decide : (0 : Int) ≤ 5), (by decide : (5 : Int) < 6)⟩) ?_)
   | (refine And.intro (by show indep _ _ = true; kernel_rfl) ?_)
   | (refine Exists.intro _ (And.intro (by first | exact rfl) ?_))
   | refine ⟨_, _, _, ATriple.call (look_ok s p t) (by rfl) (by rfl) (by rfl), ?_⟩
   | refine ⟨_, _, _, ATriple.call (read_ok s p t dn) (by rfl) (by rfl) (by rfl), ?_⟩
   | refine ⟨_, _, _, ATriple.call (rhas_ok w p t) (by rfl) (by rfl) (by rfl), ?_⟩
   | fail
  all_goals (conv => whnf)
  all_goals exact ⟨rfl, rfl⟩
theorem told_0x {s w : Ss} (h : Rs s w)  (t dn : Int) (hd : -9223372036854775808 ≤ dn ∧ dn < 9223372036854775808) (hb : hasB w 0 t = true) (hc : ((w.a.ver ≤ dn ∧ w.k ≤ IntKind.i64.wrap (dn - w.a.ver)) ∨ w.a.till < w.n)) : ATriple Try.prog gv noRep 18 [.ref (0, 0) 0, .ref (0, 1) 0, hdl 0 t, i64V dn] [.box (cellsS s), .box (rcellsS w)] (.bool true) [.box (cellsS s), .box (rcellsS w)] none := by
  obtain ⟨f0, f1, f2, f3, f4⟩ := has_facts0 h hb dn
  have c1 := rover_0 w.k w.l w.n w.a w.b w.c w.d w.e w.f t dn
  rw [decide_eq_true hc] at c1
  rw [if_pos ((over_iff h h.a f0 hd).2 hc)] at f3 f4
  refine ATriple.of_body (C := cx) Try.func18 rfl (by kernel_rfl) mixed rfl (by simp [okA, okC, okN]) (by simp [okOb, okC, okN, cells, plc, rcells]) (by simp [okG, okA, okC, okN]) (by simp [okOb, okC, okN, cells, plc, rcells]) (fun o ho => by cases ho) fun E hE => ?_
  repeat' (conv => whnf); first
   | (refine bcase_of (fun hr => ?_) (fun hr => ?_) <;> (try simp only [hb, f1, f2, f3, f4, bne_self_eq_false, beq_self_eq_true] at hr) <;> try (exfalso; simp at hr; done))
   | (refine And.intro (by first | exact Nat.le_of_ble_eq_true rfl | decide | decide | exact ⟨(by decide : (0 : Int) ≤ 0), (by decide : (0 : Int) < 6)⟩ | exact ⟨(by decide : (0 : Int) ≤ 1), (by decide : (1 : Int) < 6)⟩ | exact ⟨(by decide : (0 : Int) ≤ 2), (by decide : (2 : Int) < 6)⟩ | exact ⟨(by decide : (0 : Int) ≤ 3), (by decide : (3 : Int) < 6)⟩ | exact ⟨(by decide : (0 : Int) ≤ 4), (by decide : (4 : Int) < 6)⟩ | exact ⟨(by decide : (0 : Int) ≤ 5), (by decide : (5 : Int) < 6)⟩) ?_)
   | (refine And.intro (by show indep _ _ = true; kernel_rfl) ?_)
   | (refine Exists.intro _ (And.intro (by first | exact rfl) ?_))
   | refine ⟨_, _, _, ATriple.call (look_ok s 0 t) (by rfl) (by rfl) (by rfl), ?_⟩
   | refine ⟨_, _, _, ATriple.call (read_ok s 0 t dn) (by rfl) (by rfl) (by rfl), ?_⟩
   | refine ⟨_, _, _, ATriple.call (rhas_ok w 0 t) (by rfl) (by rfl) (by rfl), ?_⟩
   | refine ⟨_, _, _, ATriple.call (c1) (by rfl) (by rfl) (by rfl), ?_⟩
   | fail
  all_goals (conv => whnf)
  all_goals exact ⟨rfl, rfl⟩
theorem told_0 {s w : Ss} (h : Rs s w)  (t dn : Int) (hd : -9223372036854775808 ≤ dn ∧ dn < 9223372036854775808) (hb : hasB w 0 t = true) (hc : ¬ ((w.a.ver ≤ dn ∧ w.k ≤ IntKind.i64.wrap (dn - w.a.ver)) ∨ w.a.till < w.n)) : ATriple Try.prog gv noRep 18 [.ref (0, 0) 0, .ref (0, 1) 0, hdl 0 t, i64V dn] [.box (cellsS s), .box (rcellsS w)] (.bool true) [.box (cellsS s), .box (rcellsS w)] none := by
  obtain ⟨f0, f1, f2, f3, f4⟩ := has_facts0 h hb dn
  have c1 := rover_0 w.k w.l w.n w.a w.b w.c w.d w.e w.f t dn
  rw [decide_eq_false hc] at c1
  rw [if_neg fun e => hc ((over_iff h h.a f0 hd).1 e)] at f3 f4
  refine ATriple.of_body (C := cx) Try.func18 rfl (by kernel_rfl) mixed rfl (by simp [okA, okC, okN]) (by simp [okOb, okC, okN, cells, plc, rcells]) (by simp [okG, okA, okC, okN]) (by simp [okOb, okC, okN, cells, plc, rcells]) (fun o ho => by cases ho) fun E hE => ?_
  repeat' (conv => whnf); first
   | (refine bcase_of (fun hr => ?_) (fun hr => ?_) <;> (try simp only [hb, f1, f2, f3, f4, bne_self_eq_false, beq_self_eq_true] at hr) <;> try (exfalso; simp at hr; done))
   | (refine And.intro (by first | exact Nat.le_of_ble_eq_true rfl | decide | decide | exact ⟨(by decide : (0 : Int) ≤ 0), (by decide : (0 : Int) < 6)⟩ | exact ⟨(by decide : (0 : Int) ≤ 1), (by decide : (1 : Int) < 6)⟩ | exact ⟨(by decide : (0 : Int) ≤ 2), (by decide : (2 : Int) < 6)⟩ | exact ⟨(by decide : (0 : Int) ≤ 3), (by decide : (3 : Int) < 6)⟩ | exact ⟨(by decide : (0 : Int) ≤ 4), (by decide : (4 : Int) < 6)⟩ | exact ⟨(by decide : (0 : Int) ≤ 5), (by decide : (5 : Int) < 6)⟩) ?_)
   | (refine And.intro (by show indep _ _ = true; kernel_rfl) ?_)
   | (refine Exists.intro _ (And.intro (by first | exact rfl) ?_))
   | refine ⟨_, _, _, ATriple.call (look_ok s 0 t) (by rfl) (by rfl) (by rfl), ?_⟩
   | refine ⟨_, _, _, ATriple.call (read_ok s 0 t dn) (by rfl) (by rfl) (by rfl), ?_⟩
   | refine ⟨_, _, _, ATriple.call (rhas_ok w 0 t) (by rfl) (by rfl) (by rfl), ?_⟩
   | refine ⟨_, _, _, ATriple.call (c1) (by rfl) (by rfl) (by rfl), ?_⟩
   | fail
  all_goals (conv => whnf)
  all_goals exact ⟨rfl, rfl⟩
theorem told_1x {s w : Ss} (h : Rs s w)  (t dn : Int) (hd : -9223372036854775808 ≤ dn ∧ dn < 9223372036854775808) (hb : hasB w 1 t = true) (hc : ((w.b.ver ≤ dn ∧ w.k ≤ IntKind.i64.wrap (dn - w.b.ver)) ∨ w.b.till < w.n)) : ATriple Try.prog gv noRep 18 [.ref (0, 0) 0, .ref (0, 1) 0, hdl 1 t, i64V dn] [.box (cellsS s), .box (rcellsS w)] (.bool true) [.box (cellsS s), .box (rcellsS w)] none := by
  obtain ⟨f0, f1, f2, f3, f4⟩ := has_facts1 h hb dn
  have c1 := rover_1 w.k w.l w.n w.a w.b w.c w.d w.e w.f t dn
  rw [decide_eq_true hc] at c1
  rw [if_pos ((over_iff h h.b f0 hd).2 hc)] at f3 f4
  refine ATriple.of_body (C := cx) Try.func18 rfl (by kernel_rfl) mixed rfl (by simp [okA, okC, okN]) (by simp [okOb, okC, okN, cells, plc, rcells]) (by simp [okG, okA, okC, okN]) (by simp [okOb, okC, okN, cells, plc, rcells]) (fun o ho => by cases ho) fun E hE => ?_
  repeat' (conv => whnf); first
   | (refine bcase_of (fun hr => ?_) (fun hr => ?_) <;> (try simp only [hb, f1, f2, f3, f4, bne_self_eq_false, beq_self_eq_true] at hr) <;> try (exfalso; simp at hr; done))
   | (refine And.intro (by first | exact Nat.le_of_ble_eq_true rfl | decide | decide | exact ⟨(by decide : (0 : Int) ≤ 0), (by decide : (0 : Int) < 6)⟩ | exact ⟨(by decide : (0 : Int) ≤ 1), (by decide : (1 : Int) < 6)⟩ | exact ⟨(by decide : (0 : Int) ≤ 2), (by decide : (2 : Int) < 6)⟩ | exact ⟨(by decide : (0 : Int) ≤ 3), (by decide : (3 : Int) < 6)⟩ | exact ⟨(by decide : (0 : Int) ≤ 4), (by decide : (4 : Int) < 6)⟩ | exact ⟨(by decide : (0 : Int) ≤ 5), (by decide : (5 : Int) < 6)⟩) ?_)
   | (refine And.intro (by show indep _ _ = true; kernel_rfl) ?_)
   | (refine Exists.intro _ (And.intro (by first | exact rfl) ?_))
   | refine ⟨_, _, _, ATriple.call (look_ok s 1 t) (by rfl) (by rfl) (by rfl), ?_⟩
   | refine ⟨_, _, _, ATriple.call (read_ok s 1 t dn) (by rfl) (by rfl) (by rfl), ?_⟩
   | refine ⟨_, _, _, ATriple.call (rhas_ok w 1 t) (by rfl) (by rfl) (by rfl), ?_⟩
   | refine ⟨_, _, _, ATriple.call (c1) (by rfl) (by rfl) (by rfl), ?_⟩
   | fail
  all_goals (conv => whnf)
  all_goals exact ⟨rfl, rfl⟩
theorem told_1 {s w : Ss} (h : Rs s w)  (t dn : Int) (hd : -9223372036854775808 ≤ dn ∧ dn < 9223372036854775808) (hb : hasB w 1 t = true) (hc : ¬ ((w.b.ver ≤ dn ∧ w.k ≤ IntKind.i64.wrap (dn - w.b.ver)) ∨ w.b.till < w.n)) : ATriple Try.prog gv noRep 18 [.ref (0, 0) 0, .ref (0, 1) 0, hdl 1 t, i64V dn] [.box (cellsS s), .box (rcellsS w)] (.bool true) [.box (cellsS s), .box (rcellsS w)] none := by
  obtain ⟨f0, f1, f2, f3, f4⟩ := has_facts1 h hb dn
  have c1 := rover_1 w.k w.l w.n w.a w.b w.c w.d w.e w.f t dn
  rw [decide_eq_false hc] at c1
  rw [if_neg fun e => hc ((over_iff h h.b f0 hd).1 e)] at f3 f4
  refine ATriple.of_body (C := cx) Try.func18 rfl (by kernel_rfl) mixed rfl (by simp [okA, okC, okN]) (by simp [okOb, okC, okN, cells, plc, rcells]) (by simp [okG, okA, okC, okN]) (by simp [okOb, okC, okN, cells, plc, rcells]) (fun o ho => by cases ho) fun E hE => ?_
  repeat' (conv => whnf); first
   | (refine bcase_of (fun hr => ?_) (fun hr => ?_) <;> (try simp only [hb, f1, f2, f3, f4, bne_self_eq_false, beq_self_eq_true] at hr) <;> try (exfalso; simp at hr; done))
   | (refine And.intro (by first | exact Nat.le_of_ble_eq_true rfl | decide | decide | exact ⟨(by decide : (0 : Int) ≤ 0), (by decide : (0 : Int) < 6)⟩ | exact ⟨(by decide : (0 : Int) ≤ 1), (by decide : (1 : Int) < 6)⟩ | exact ⟨(by decide : (0 : Int) ≤ 2), (by decide : (2 : Int) < 6)⟩ | exact ⟨(by decide : (0 : Int) ≤ 3), (by decide : (3 : Int) < 6)⟩ | exact ⟨(by decide : (0 : Int) ≤ 4), (by decide : (4 : Int) < 6)⟩ | exact ⟨(by decide : (0 : Int) ≤ 5), (by decide : (5 : Int) < 6)⟩) ?_)
   | (refine And.intro (by show indep _ _ = true; kernel_rfl) ?_)
   | (refine Exists.intro _ (And.intro (by first | exact rfl) ?_))
   | refine ⟨_, _, _, ATriple.call (look_ok s 1 t) (by rfl) (by rfl) (by rfl), ?_⟩
   | refine ⟨_, _, _, ATriple.call (read_ok s 1 t dn) (by rfl) (by rfl) (by rfl), ?_⟩
   | refine ⟨_, _, _, ATriple.call (rhas_ok w 1 t) (by rfl) (by rfl) (by rfl), ?_⟩
   | refine ⟨_, _, _, ATriple.call (c1) (by rfl) (by rfl) (by rfl), ?_⟩
   | fail
  all_goals (conv => whnf)
  all_goals exact ⟨rfl, rfl⟩
theorem told_2x {s w : Ss} (h : Rs s w)  (t dn : Int) (hd : -9223372036854775808 ≤ dn ∧ dn < 9223372036854775808) (hb : hasB w 2 t = true) (hc : ((w.c.ver ≤ dn ∧ w.k ≤ IntKind.i64.wrap (dn - w.c.ver)) ∨ w.c.till < w.n)) : ATriple Try.prog gv noRep 18 [.ref (0, 0) 0, .ref (0, 1) 0, hdl 2 t, i64V dn] [.box (cellsS s), .box (rcellsS w)] (.bool true) [.box (cellsS s), .box (rcellsS w)] none := by
  obtain ⟨f0, f1, f2, f3, f4⟩ := has_facts2 h hb dn
  have c1 := rover_2 w.k w.l w.n w.a w.b w.c w.d w.e w.f t dn
  rw [decide_eq_true hc] at c1
  rw [if_pos ((over_iff h h.c f0 hd).2 hc)] at f3 f4
  refine ATriple.of_body (C := cx) Try.func18 rfl (by kernel_rfl) mixed rfl (by simp [okA, okC, okN]) (by simp [okOb, okC, okN, cells, plc, rcells]) (by simp [okG, okA, okC, okN]) (by simp [okOb, okC, okN, cells, plc, rcells]) (fun o ho => by cases ho) fun E hE => ?_
  repeat' (conv => whnf); first
   | (refine bcase_of (fun hr => ?_) (fun hr => ?_) <;> (try simp only [hb, f1, f2, f3, f4, bne_self_eq_false, beq_self_eq_true] at hr) <;> try (exfalso; simp at hr; done))
   | (refine And.intro (by first | exact Nat.le_of_ble_eq_true rfl | decide | decide | exact ⟨(by decide : (0 : Int) ≤ 0), (by decide : (0 : Int) < 6)⟩ | exact ⟨(by decide : (0 : Int) ≤ 1), (by decide : (1 : Int) < 6)⟩ | exact ⟨(by decide : (0 : Int) ≤ 2), (by decide : (2 : Int) < 6)⟩ | exact ⟨(by decide : (0 : Int) ≤ 3), (by decide : (3 : Int) < 6)⟩ | exact ⟨(by decide : (0 : Int) ≤ 4), (by decide : (4 : Int) < 6)⟩ | exact ⟨(by decide : (0 : Int) ≤ 5), (by decide : (5 : Int) < 6)⟩) ?_)
   | (refine And.intro (by show indep _ _ = true; kernel_rfl) ?_)
   | (refine Exists.intro _ (And.intro (by first | exact rfl) ?_))
   | refine ⟨_, _, _, ATriple.call (look_ok s 2 t) (by rfl) (by rfl) (by rfl), ?_⟩
   | refine ⟨_, _, _, ATriple.call (read_ok s 2 t dn) (by rfl) (by rfl) (by rfl), ?_⟩
   | refine ⟨_, _, _, ATriple.call (rhas_ok w 2 t) (by rfl) (by rfl) (by rfl), ?_⟩
   | refine ⟨_, _, _, ATriple.call (c1) (by rfl) (by rfl) (by rfl), ?_⟩
   | fail
  all_goals (conv => whnf)
  all_goals exact ⟨rfl, rfl⟩
theorem told_2 {s w : Ss} (h : Rs s w)  (t dn : Int) (hd : -9223372036854775808 ≤ dn ∧ dn < 9223372036854775808) (hb : hasB w 2 t = true) (hc : ¬ ((w.c.ver ≤ dn ∧ w.k ≤ IntKind.i64.wrap (dn - w.c.ver)) ∨ w.c.till < w.n)) : ATriple Try.prog gv noRep 18 [.ref (0, 0) 0, .ref (0, 1) 0, hdl 2 t, i64V dn] [.box (cellsS s), .box (rcellsS w)] (.bool true) [.box (cellsS s), .box (rcellsS w)] none := by
  obtain ⟨f0, f1, f2, f3, f4⟩ := has_facts2 h hb dn
  have c1 := rover_2 w.k w.l w.n w.a w.b w.c w.d w.e w.f t dn
  rw [decide_eq_false hc] at c1
  rw [if_neg fun e => hc ((over_iff h h.c f0 hd).1 e)] at f3 f4
  refine ATriple.of_body (C := cx) Try.func18 rfl (by kernel_rfl) mixed rfl (by simp [okA, okC, okN]) (by simp [okOb, okC, okN, cells, plc, rcells]) (by simp [okG, okA, okC, okN]) (by simp [okOb, okC, okN, cells, plc, rcells]) (fun o ho => by cases ho) fun E hE => ?_
  repeat' (conv => whnf); first
   | (refine bcase_of (fun hr => ?_) (fun hr => ?_) <;> (try simp only [hb, f1, f2, f3, f4, bne_self_eq_false, beq_self_eq_true] at hr) <;> try (exfalso; simp at hr; done))
   | (refine And.intro (by first | exact Nat.le_of_ble_eq_true rfl | decide | decide | exact ⟨(by decide : (0 : Int) ≤ 0), (by decide : (0 : Int) < 6)⟩ | exact ⟨(by decide : (0 : Int) ≤ 1), (by decide : (1 : Int) < 6)⟩ | exact ⟨(by decide : (0 : Int) ≤ 2), (by decide : (2 : Int) < 6)⟩ | exact ⟨(by decide : (0 : Int) ≤ 3), (by decide : (3 : Int) < 6)⟩ | exact ⟨(by decide : (0 : Int) ≤ 4), (by decide : (4 : Int) < 6)⟩ | exact ⟨(by decide : (0 : Int) ≤ 5), (by decide : (5 : Int) < 6)⟩) ?_)
   | (refine And.intro (by show indep _ _ = true; kernel_rfl) ?_)
   | (refine Exists.intro _ (And.intro (by first | exact rfl) ?_))
   | refine ⟨_, _, _, ATriple.call (look_ok s 2 t) (by rfl) (by rfl) (by rfl), ?_⟩
   | refine ⟨_, _, _, ATriple.call (read_ok s 2 t dn) (by rfl) (by rfl) (by rfl), ?_⟩
   | refine ⟨_, _, _, ATriple.call (rhas_ok w 2 t) (by rfl) (by rfl) (by rfl), ?_⟩
   | refine ⟨_, _, _, ATriple.call (c1) (by rfl) (by rfl) (by rfl), ?_⟩
   | fail
  all_goals (conv => whnf)
  all_goals exact ⟨rfl, rfl⟩
theorem told_3x {s w : Ss} (h : Rs s w)  (t dn : Int) (hd : -9223372036854775808 ≤ dn ∧ dn < 9223372036854775808) (hb : hasB w 3 t = true) (hc : ((w.d.ver ≤ dn ∧ w.k ≤ IntKind.i64.wrap (dn - w.d.ver)) ∨ w.d.till < w.n)) : ATriple Try.prog gv noRep 18 [.ref (0, 0) 0, .ref (0, 1) 0, hdl 3 t, i64V dn] [.box (cellsS s), .box (rcellsS w)] (.bool true) [.box (cellsS s), .box (rcellsS w)] none := by
  obtain ⟨f0, f1, f2, f3, f4⟩ := has_facts3 h hb dn
  have c1 := rover_3 w.k w.l w.n w.a w.b w.c w.d w.e w.f t dn
  rw [decide_eq_true hc] at c1
  rw [if_pos ((over_iff h h.d f0 hd).2 hc)] at f3 f4
  refine ATriple.of_body (C := cx) Try.func18 rfl (by kernel_rfl) mixed rfl (by simp [okA, okC, okN]) (by simp [okOb, okC, okN, cells, plc, rcells]) (by simp [okG, okA, okC, okN]) (by simp [okOb, okC, okN, cells, plc, rcells]) (fun o ho => by cases ho) fun E hE => ?_
  repeat' (conv => whnf); first
   | (refine bcase_of (fun hr => ?_) (fun hr => ?_) <;> (try simp only [hb, f1, f2, f3, f4, bne_self_eq_false, beq_self_eq_true] at hr) <;> try (exfalso; simp at hr; done))
   | (refine And.intro (by first | exact Nat.le_of_ble_eq_true rfl | decide | decide | exact ⟨(by decide : (0 : Int) ≤ 0), (by decide : (0 : Int) < 6)⟩ | exact ⟨(by decide : (0 : Int) ≤ 1), (by decide : (1 : Int) < 6)⟩ | exact ⟨(by decide : (0 : Int) ≤ 2), (by decide : (2 : Int) < 6)⟩ | exact ⟨(by decide : (0 : Int) ≤ 3), (by decide : (3 : Int) < 6)⟩ | exact ⟨(by decide : (0 : Int) ≤ 4), (by decide : (4 : Int) < 6)⟩ | exact ⟨(by decide : (0 : Int) ≤ 5), (by decide : (5 : Int) < 6)⟩) ?_)
   | (refine And.intro (by show indep _ _ = true; kernel_rfl) ?_)
   | (refine Exists.intro _ (And.intro (by first | exact rfl) ?_))
   | refine ⟨_, _, _, ATriple.call (look_ok s 3 t) (by rfl) (by rfl) (by rfl), ?_⟩
   | refine ⟨_, _, _, ATriple.call (read_ok s 3 t dn) (by rfl) (by rfl) (by rfl), ?_⟩
   | refine ⟨_, _, _, ATriple.call (rhas_ok w 3 t) (by rfl) (by rfl) (by rfl), ?_⟩
   | refine ⟨_, _, _, ATriple.call (c1) (by rfl) (by rfl) (by rfl), ?_⟩
   | fail
  all_goals (conv => whnf)
  all_goals exact ⟨rfl, rfl⟩
theorem told_3 {s w : Ss} (h : Rs s w)  (t dn : Int) (hd : -9223372036854775808 ≤ dn ∧ dn < 9223372036854775808) (hb : hasB w 3 t = true) (hc : ¬ ((w.d.ver ≤ dn ∧ w.k ≤ IntKind.i64.wrap (dn - w.d.ver)) ∨ w.d.till < w.n)) : ATriple Try.prog gv noRep 18 [.ref (0, 0) 0, .ref (0, 1) 0, hdl 3 t, i64V dn] [.box (cellsS s), .box (rcellsS w)] (.bool true) [.box (cellsS s), .box (rcellsS w)] none := by
  obtain ⟨f0, f1, f2, f3, f4⟩ := has_facts3 h hb dn
  have c1 := rover_3 w.k w.l w.n w.a w.b w.c w.d w.e w.f t dn
  rw [decide_eq_false hc] at c1
  rw [if_neg fun e => hc ((over_iff h h.d f0 hd).1 e)] at f3 f4
  refine ATriple.of_body (C := cx) Try.func18 rfl (by kernel_rfl) mixed rfl (by simp [okA, okC, okN]) (by simp [okOb, okC, okN, cells, plc, rcells]) (by simp [okG, okA, okC, okN]) (by simp [okOb, okC, okN, cells, plc, rcells]) (fun o ho => by cases ho) fun E hE => ?_
  repeat' (conv => whnf); first
   | (refine bcase_of (fun hr => ?_) (fun hr => ?_) <;> (try simp only [hb, f1, f2, f3, f4, bne_self_eq_false, beq_self_eq_true] at hr) <;> try (exfalso; simp at hr; done))
   | (refine And.intro (by first | exact Nat.le_of_ble_eq_true rfl | decide | decide | exact ⟨(by decide : (0 : Int) ≤ 0), (by decide : (0 : Int) < 6)⟩ | exact ⟨(by decide : (0 : Int) ≤ 1), (by decide : (1 : Int) < 6)⟩ | exact ⟨(by decide : (0 : Int) ≤ 2), (by decide : (2 : Int) < 6)⟩ | exact ⟨(by decide : (0 : Int) ≤ 3), (by decide : (3 : Int) < 6)⟩ | exact ⟨(by decide : (0 : Int) ≤ 4), (by decide : (4 : Int) < 6)⟩ | exact ⟨(by decide : (0 : Int) ≤ 5), (by decide : (5 : Int) < 6)⟩) ?_)
   | (refine And.intro (by show indep _ _ = true; kernel_rfl) ?_)
   | (refine Exists.intro _ (And.intro (by first | exact rfl) ?_))
   | refine ⟨_, _, _, ATriple.call (look_ok s 3 t) (by rfl) (by rfl) (by rfl), ?_⟩
   | refine ⟨_, _, _, ATriple.call (read_ok s 3 t dn) (by rfl) (by rfl) (by rfl), ?_⟩
   | refine ⟨_, _, _, ATriple.call (rhas_ok w 3 t) (by rfl) (by rfl) (by rfl), ?_⟩
   | refine ⟨_, _, _, ATriple.call (c1) (by rfl) (by rfl) (by rfl), ?_⟩
   | fail
  all_goals (conv => whnf)
  all_goals exact ⟨rfl, rfl⟩
theorem told_4x {s w : Ss} (h : Rs s w)  (t dn : Int) (hd : -9223372036854775808 ≤ dn ∧ dn < 9223372036854775808) (hb : hasB w 4 t = true) (hc : ((w.e.ver ≤ dn ∧ w.k ≤ IntKind.i64.wrap (dn - w.e.ver)) ∨ w.e.till < w.n)) : ATriple Try.prog gv noRep 18 [.ref (0, 0) 0, .ref (0, 1) 0, hdl 4 t, i64V dn] [.box (cellsS s), .box (rcellsS w)] (.bool true) [.box (cellsS s), .box (rcellsS w)] none := by
  obtain ⟨f0, f1, f2, f3, f4⟩ := has_facts4 h hb dn
  have c1 := rover_4 w.k w.l w.n w.a w.b w.c w.d w.e w.f t dn
  rw [decide_eq_true hc] at c1
  rw [if_pos ((over_iff h h.e f0 hd).2 hc)] at f3 f4
  refine ATriple.of_body (C := cx) Try.func18 rfl (by kernel_rfl) mixed rfl (by simp [okA, okC, okN]) (by simp [okOb, okC, okN, cells, plc, rcells]) (by simp [okG, okA, okC, okN]) (by simp [okOb, okC, okN, cells, plc, rcells]) (fun o ho => by cases ho) fun E hE => ?_
  repeat' (conv => whnf); first
   | (refine bcase_of (fun hr => ?_) (fun hr => ?_) <;> (try simp only [hb, f1, f2, f3, f4, bne_self_eq_false, beq_self_eq_true] at hr) <;> try (exfalso; simp at hr; done))
   | (refine And.intro (by first | exact Nat.le_of_ble_eq_true rfl | decide | decide | exact ⟨(by decide : (0 : Int) ≤ 0), (by decide : (0 : Int) < 6)⟩ | exact ⟨(by decide : (0 : Int) ≤ 1), (by decide : (1 : Int) < 6)⟩ | exact ⟨(by decide : (0 : Int) ≤ 2), (by decide : (2 : Int) < 6)⟩ | exact ⟨(by decide : (0 : Int) ≤ 3), (by decide : (3 : Int) < 6)⟩ | exact ⟨(by decide : (0 : Int) ≤ 4), (by decide : (4 : Int) < 6)⟩ | exact ⟨(by decide : (0 : Int) ≤ 5), (by decide : (5 : Int) < 6)⟩) ?_)
   | (refine And.intro (by show indep _ _ = true; kernel_rfl) ?_)
   | (refine Exists.intro _ (And.intro (by first | exact rfl) ?_))
   | refine ⟨_, _, _, ATriple.call (look_ok s 4 t) (by rfl) (by rfl) (by rfl), ?_⟩
   | refine ⟨_, _, _, ATriple.call (read_ok s 4 t dn) (by rfl) (by rfl) (by rfl), ?_⟩
   | refine ⟨_, _, _, ATriple.call (rhas_ok w 4 t) (by rfl) (by rfl) (by rfl), ?_⟩
   | refine ⟨_, _, _, ATriple.call (c1) (by rfl) (by rfl) (by rfl), ?_⟩
   | fail
  all_goals (conv => whnf)
  all_goals exact ⟨rfl, rfl⟩
theorem told_4 {s w : Ss} (h : Rs s w)  (t dn : Int) (hd : -9223372036854775808 ≤ dn ∧ dn < 9223372036854775808) (hb : hasB w 4 t = true) (hc : ¬ ((w.e.ver ≤ dn ∧ w.k ≤ IntKind.i64.wrap (dn - w.e.ver)) ∨ w.e.till < w.n)) : ATriple Try.prog gv noRep 18 [.ref (0, 0) 0, .ref (0, 1) 0, hdl 4 t, i64V dn] [.box (cellsS s), .box (rcellsS w)] (.bool true) [.box (cellsS s), .box (rcellsS w)] none := by
  obtain ⟨f0, f1, f2, f3, f4⟩ := has_facts4 h hb dn
  have c1 := rover_4 w.k w.l w.n w.a w.b w.c w.d w.e w.f t dn
  rw [decide_eq_false hc] at c1
  rw [if_neg fun e => hc ((over_iff h h.e f0 hd).1 e)] at f3 f4
  refine ATriple.of_body (C := cx) Try.func18 rfl (by kernel_rfl) mixed rfl (by simp [okA, okC, okN]) (by simp [okOb, okC, okN, cells, plc, rcells]) (by simp [okG, okA, okC, okN]) (by simp [okOb, okC, okN, cells, plc, rcells]) (fun o ho => by cases ho) fun E hE => ?_
  repeat' (conv => whnf); first
   | (refine bcase_of (fun hr => ?_) (fun hr => ?_) <;> (try simp only [hb, f1, f2, f3, f4, bne_self_eq_false, beq_self_eq_true] at hr) <;> try (exfalso; simp at hr; done))
   | (refine And.intro (by first | exact Nat.le_of_ble_eq_true rfl | decide | decide | exact ⟨(by decide : (0 : Int) ≤ 0), (by decide : (0 : Int) < 6)⟩ | exact ⟨(by decide : (0 : Int) ≤ 1), (by decide : (1 : Int) < 6)⟩ | exact ⟨(by decide : (0 : Int) ≤ 2), (by decide : (2 : Int) < 6)⟩ | exact ⟨(by decide : (0 : Int) ≤ 3), (by decide : (3 : Int) < 6)⟩ | exact ⟨(by decide : (0 : Int) ≤ 4), (by decide : (4 : Int) < 6)⟩ | exact ⟨(by decide : (0 : Int) ≤ 5), (by decide : (5 : Int) < 6)⟩) ?_)
   | (refine And.intro (by show indep _ _ = true; kernel_rfl) ?_)
   | (refine Exists.intro _ (And.intro (by first | exact rfl) ?_))
   | refine ⟨_, _, _, ATriple.call (look_ok s 4 t) (by rfl) (by rfl) (by rfl), ?_⟩
   | refine ⟨_, _, _, ATriple.call (read_ok s 4 t dn) (by rfl) (by rfl) (by rfl), ?_⟩
   | refine ⟨_, _, _, ATriple.call (rhas_ok w 4 t) (by rfl) (by rfl) (by rfl), ?_⟩
   | refine ⟨_, _, _, ATriple.call (c1) (by rfl) (by rfl) (by rfl), ?_⟩
   | fail
  all_goals (conv => whnf)
  all_goals exact ⟨rfl, rfl⟩
theorem told_5x {s w : Ss} (h : Rs s w)  (t dn : Int) (hd : -9223372036854775808 ≤ dn ∧ dn < 9223372036854775808) (hb : hasB w 5 t = true) (hc : ((w.f.ver ≤ dn ∧ w.k ≤ IntKind.i64.wrap (dn - w.f.ver)) ∨ w.f.till < w.n)) : ATriple Try.prog gv noRep 18 [.ref (0, 0) 0, .ref (0, 1) 0, hdl 5 t, i64V dn] [.box (cellsS s), .box (rcellsS w)] (.bool true) [.box (cellsS s), .box (rcellsS w)] none := by
  obtain ⟨f0, f1, f2, f3, f4⟩ := has_facts5 h hb dn
  have c1 := rover_5 w.k w.l w.n w.a w.b w.c w.d w.e w.f t dn
  rw [decide_eq_true hc] at c1
  rw [if_pos ((over_iff h h.f f0 hd).2 hc)] at f3 f4
  refine ATriple.of_body (C := cx) Try.func18 rfl (by kernel_rfl) mixed rfl (by simp [okA, okC, okN]) (by simp [okOb, okC, okN, cells, plc, rcells]) (by simp [okG, okA, okC, okN]) (by simp [okOb, okC, okN, cells, plc, rcells]) (fun o ho => by cases ho) fun E hE => ?_
  repeat' (conv => whnf); first
   | (refine bcase_of (fun hr => ?_) (fun hr => ?_) <;> (try simp only [hb, f1, f2, f3, f4, bne_self_eq_false, beq_self_eq_true] at hr) <;> try (exfalso; simp at hr; done))
   | (refine And.intro (by first | exact Nat.le_of_ble_eq_true rfl | decide | decide | exact ⟨(by decide : (0 : Int) ≤ 0), (by decide : (0 : Int) < 6)⟩ | exact ⟨(by decide : (0 : Int) ≤ 1), (by decide : (1 : Int) < 6)⟩ | exact ⟨(by decide : (0 : Int) ≤ 2), (by decide : (2 : Int) < 6)⟩ | exact ⟨(by decide : (0 : Int) ≤ 3), (by decide : (3 : Int) < 6)⟩ | exact ⟨(by decide : (0 : Int) ≤ 4), (by decide : (4 : Int) < 6)⟩ | exact ⟨(by decide : (0 : Int) ≤ 5), (by decide : (5 : Int) < 6)⟩) ?_)
   | (refine And.intro (by show indep _ _ = true; kernel_rfl) ?_)
   | (refine Exists.intro _ (And.intro (by first | exact rfl) ?_))
   | refine ⟨_, _, _, ATriple.call (look_ok s 5 t) (by rfl) (by rfl) (by rfl), ?_⟩
   | refine ⟨_, _, _, ATriple.call (read_ok s 5 t dn) (by rfl) (by rfl) (by rfl), ?_⟩
   | refine ⟨_, _, _, ATriple.call (rhas_ok w 5 t) (by rfl) (by rfl) (by rfl), ?_⟩
   | refine ⟨_, _, _, ATriple.call (c1) (by rfl) (by rfl) (by rfl), ?_⟩
   | fail
  all_goals (conv => whnf)
  all_goals exact ⟨rfl, rfl⟩
theorem told_5 {s w : Ss} (h : Rs s w)  (t dn : Int) (hd : -9223372036854775808 ≤ dn ∧ dn < 9223372036854775808) (hb : hasB w 5 t = true) (hc : ¬ ((w.f.ver ≤ dn ∧ w.k ≤ IntKind.i64.wrap (dn - w.f.ver)) ∨ w.f.till < w.n)) : ATriple Try.prog gv noRep 18 [.ref (0, 0) 0, .ref (0, 1) 0, hdl 5 t, i64V dn] [.box (cellsS s), .box (rcellsS w)] (.bool true) [.box (cellsS s), .box (rcellsS w)] none := by
  obtain ⟨f0, f1, f2, f3, f4⟩ := has_facts5 h hb dn
  have c1 := rover_5 w.k w.l w.n w.a w.b w.c w.d w.e w.f t dn
  rw [decide_eq_false hc] at c1
  rw [if_neg fun e => hc ((over_iff h h.f f0 hd).1 e)] at f3 f4
  refine ATriple.of_body (C := cx) Try.func18 rfl (by kernel_rfl) mixed rfl (by simp [okA, okC, okN]) (by simp [okOb, okC, okN, cells, plc, rcells]) (by simp [okG, okA, okC, okN]) (by simp [okOb, okC, okN, cells, plc, rcells]) (fun o ho => by cases ho) fun E hE => ?_
  repeat' (conv => whnf); first
   | (refine bcase_of (fun hr => ?_) (fun hr => ?_) <;> (try simp only [hb, f1, f2, f3, f4, bne_self_eq_false, beq_self_eq_true] at hr) <;> try (exfalso; simp at hr; done))
   | (refine And.intro (by first | exact Nat.le_of_ble_eq_true rfl | decide | decide | exact ⟨(by decide : (0 : Int) ≤ 0), (by decide : (0 : Int) < 6)⟩ | exact ⟨(by decide : (0 : Int) ≤ 1), (by decide : (1 : Int) < 6)⟩ | exact ⟨(by decide : (0 : Int) ≤ 2), (by decide : (2 : Int) < 6)⟩ | exact ⟨(by decide : (0 : Int) ≤ 3), (by decide : (3 : Int) < 6)⟩ | exact ⟨(by decide : (0 : Int) ≤ 4), (by decide : (4 : Int) < 6)⟩ | exact ⟨(by decide : (0 : Int) ≤ 5), (by decide : (5 : Int) < 6)⟩) ?_)
   | (refine And.intro (by show indep _ _ = true; kernel_rfl) ?_)
   | (refine Exists.intro _ (And.intro (by first | exact rfl) ?_))
   | refine ⟨_, _, _, ATriple.call (look_ok s 5 t) (by rfl) (by rfl) (by rfl), ?_⟩
   | refine ⟨_, _, _, ATriple.call (read_ok s 5 t dn) (by rfl) (by rfl) (by rfl), ?_⟩
   | refine ⟨_, _, _, ATriple.call (rhas_ok w 5 t) (by rfl) (by rfl) (by rfl), ?_⟩
   | refine ⟨_, _, _, ATriple.call (c1) (by rfl) (by rfl) (by rfl), ?_⟩
   | fail
  all_goals (conv => whnf)
  all_goals exact ⟨rfl, rfl⟩
theorem told_ok {s w : Ss} (h : Rs s w) (p t dn : Int) (hd : -9223372036854775808 ≤ dn ∧ dn < 9223372036854775808) : ATriple Try.prog gv noRep 18 [.ref (0, 0) 0, .ref (0, 1) 0, hdl p t, i64V dn] [.box (cellsS s), .box (rcellsS w)] (.bool true) [.box (cellsS s), .box (rcellsS w)] none := by
  cases hb : hasB w p t with
  | false => exact told_none h p t dn hb
  | true =>
    rcases has_in hb with rfl | rfl | rfl | rfl | rfl | rfl
    · exact if hc : (w.a.ver ≤ dn ∧ w.k ≤ IntKind.i64.wrap (dn - w.a.ver)) ∨ w.a.till < w.n then told_0x h t dn hd hb hc else told_0 h t dn hd hb hc
    · exact if hc : (w.b.ver ≤ dn ∧ w.k ≤ IntKind.i64.wrap (dn - w.b.ver)) ∨ w.b.till < w.n then told_1x h t dn hd hb hc else told_1 h t dn hd hb hc
    · exact if hc : (w.c.ver ≤ dn ∧ w.k ≤ IntKind.i64.wrap (dn - w.c.ver)) ∨ w.c.till < w.n then told_2x h t dn hd hb hc else told_2 h t dn hd hb hc
    · exact if hc : (w.d.ver ≤ dn ∧ w.k ≤ IntKind.i64.wrap (dn - w.d.ver)) ∨ w.d.till < w.n then told_3x h t dn hd hb hc else told_3 h t dn hd hb hc
    · exact if hc : (w.e.ver ≤ dn ∧ w.k ≤ IntKind.i64.wrap (dn - w.e.ver)) ∨ w.e.till < w.n then told_4x h t dn hd hb hc else told_4 h t dn hd hb hc
    · exact if hc : (w.f.ver ≤ dn ∧ w.k ≤ IntKind.i64.wrap (dn - w.f.ver)) ∨ w.f.till < w.n then told_5x h t dn hd hb hc else told_5 h t dn hd hb hc
end Go.Proofs.Ythgalldffgaddaa
