/- Chapter 14: the slab: places that are not taken. -/
import Derived.Test.YtbppemcdphgknaaSlE
set_option linter.unusedVariables false
set_option linter.unusedSimpArgs false
namespace Go.Proofs.Ytbppemcdphgknaa
open Go Go.Vm
set_option maxRecDepth 100000
set_option maxHeartbeats 40000000
set_option linter.unusedSimpArgs false
set_option linter.unusedVariables false
/-- No place at i, or one that is not taken. -/
def Fr (ps : List (List Pl)) (i : Int) : Prop := i < 0 ∨ ps.length * 8 ≤ i ∨ ∃ g p, 0 ≤ i ∧ ps[i.toNat / 8]? = some g ∧ g[i.toNat % 8]? = some p ∧ p.t = false
theorem at_none (cap taken low : Int) (ps : List (List Pl)) (hl : ps.length ≤ 1000) (i : Int) (h : Fr ps i) :
    ATriple Try.prog gv R0 42 [.ref (0, 0) 0, i64V i] [.box (slC (0, 1) cap taken low ps), .prow (ps.map pgD)] .nilp [.box (slC (0, 1) cap taken low ps), .prow (ps.map pgD)] none := by
  rcases h with h | h | ⟨g, p, h0, hg, hp, ht⟩
  · exact at_out cap taken low ps hl i (.inl h)
  · exact at_out cap taken low ps hl i (.inr h)
  · exact at_free cap taken low ps hl i h0 hg hp ht
theorem put_no (cap taken low : Int) (ps : List (List Pl)) (hl : ps.length ≤ 1000) (i : Int) (h : Fr ps i) (l : List En) : ATriple Try.prog gv R0 22 [.ref (0, 0) 0, i64V i, chV l] [.abs (slD cap taken low ps)] (.bool false) [.abs (slD cap taken low ps)] (none) := by
  refine ATriple.of_bodyW (C := cx3) Try.func22 rfl (by kernel_rfl) (mixedOf _) rfl (by simp [okA, okC, okN, pure_E, pure_nil]) (by simp [okOb, okC, okN, pure_E]) (by simp [okG, okA, okC, okN, pure_E, pure_nil]) (by simp [okOb, okC, okN, pure_E]) (fun o ho => by cases ho) 1 [.opn (0, 0) [18]] fun E hE => ?_
  repeat' (conv => whnf); first
   | (refine bcase_of (fun hr => ?_) (fun hr => ?_) <;> try (exfalso; simp at hr; done))
   | (apply And.intro; · first | exact Nat.le_of_ble_eq_true rfl | (show indep _ _ = true; kernel_rfl) | decide | exact ⟨by decide, by decide⟩ | exact ⟨Nat.le_of_ble_eq_true rfl, allOne_of rfl⟩ | exact ⟨rfl, rfl⟩)
   | (apply Exists.intro; apply And.intro; · first | exact rfl)
   | (apply Exists.intro; apply Exists.intro; apply Exists.intro; apply And.intro; · first | (apply ATriple.callN (at_none cap taken low ps hl i h) <;> rfl))
   | fail
  all_goals refine ⟨[.shut (0, 0) (slD (cap) (taken) (low) (ps))], ?_⟩
  all_goals (conv => whnf)
  all_goals refine ⟨shut_sl (19, 1) (cap) (taken) (low) _ (rfl) (by simp), ?_⟩
  all_goals (conv => whnf)
  all_goals exact ⟨rfl, rfl⟩
theorem get_no (cap taken low : Int) (ps : List (List Pl)) (hl : ps.length ≤ 1000) (i : Int) (h : Fr ps i) : ATriple Try.prog gv R0 24 [.ref (0, 0) 0, i64V i] [.abs (slD cap taken low ps)] (.tup [.nils, .bool false]) [.abs (slD cap taken low ps)] (none) := by
  refine ATriple.of_bodyW (C := cx3) Try.func24 rfl (by kernel_rfl) (mixedOf _) rfl (by simp [okA, okC, okN, pure_E, pure_nil]) (by simp [okOb, okC, okN, pure_E]) (by simp [okG, okA, okC, okN, pure_E, pure_nil]) (by simp [okOb, okC, okN, pure_E]) (fun o ho => by cases ho) 1 [.opn (0, 0) [17]] fun E hE => ?_
  repeat' (conv => whnf); first
   | (refine bcase_of (fun hr => ?_) (fun hr => ?_) <;> try (exfalso; simp at hr; done))
   | (apply And.intro; · first | exact Nat.le_of_ble_eq_true rfl | (show indep _ _ = true; kernel_rfl) | decide | exact ⟨by decide, by decide⟩ | exact ⟨Nat.le_of_ble_eq_true rfl, allOne_of rfl⟩ | exact ⟨rfl, rfl⟩)
   | (apply Exists.intro; apply And.intro; · first | exact rfl)
   | (apply Exists.intro; apply Exists.intro; apply Exists.intro; apply And.intro; · first | (apply ATriple.callN (at_none cap taken low ps hl i h) <;> rfl))
   | fail
  all_goals refine ⟨[.shut (0, 0) (slD (cap) (taken) (low) (ps))], ?_⟩
  all_goals (conv => whnf)
  all_goals refine ⟨shut_sl (18, 1) (cap) (taken) (low) _ (rfl) (by simp), ?_⟩
  all_goals (conv => whnf)
  all_goals exact ⟨rfl, rfl⟩
theorem free_no (cap taken low : Int) (ps : List (List Pl)) (hl : ps.length ≤ 1000) (i : Int) (h : Fr ps i) : ATriple Try.prog gv R0 14 [.ref (0, 0) 0, i64V i] [.abs (slD cap taken low ps)] (.bool false) [.abs (slD cap taken low ps)] (none) := by
  refine ATriple.of_bodyW (C := cx3) Try.func14 rfl (by kernel_rfl) (mixedOf _) rfl (by simp [okA, okC, okN, pure_E, pure_nil]) (by simp [okOb, okC, okN, pure_E]) (by simp [okG, okA, okC, okN, pure_E, pure_nil]) (by simp [okOb, okC, okN, pure_E]) (fun o ho => by cases ho) 1 [.opn (0, 0) [30]] fun E hE => ?_
  repeat' (conv => whnf); first
   | (refine bcase_of (fun hr => ?_) (fun hr => ?_) <;> try (exfalso; simp at hr; done))
   | (apply And.intro; · first | exact Nat.le_of_ble_eq_true rfl | (show indep _ _ = true; kernel_rfl) | decide | exact ⟨by decide, by decide⟩ | exact ⟨Nat.le_of_ble_eq_true rfl, allOne_of rfl⟩ | exact ⟨rfl, rfl⟩)
   | (apply Exists.intro; apply And.intro; · first | exact rfl)
   | (apply Exists.intro; apply Exists.intro; apply Exists.intro; apply And.intro; · first | (apply ATriple.callN (at_none cap taken low ps hl i h) <;> rfl))
   | fail
  all_goals refine ⟨[.shut (0, 0) (slD (cap) (taken) (low) (ps))], ?_⟩
  all_goals (conv => whnf)
  all_goals refine ⟨shut_sl (31, 1) (cap) (taken) (low) _ (rfl) (by simp), ?_⟩
  all_goals (conv => whnf)
  all_goals exact ⟨rfl, rfl⟩
theorem get_nil (cap taken low : Int) (ps : List (List Pl)) (hl : ps.length ≤ 1000) (i : Int) (h0 : 0 ≤ i) {g : List Pl} (hg : ps[i.toNat / 8]? = some g) {p : Pl} (hp : g[i.toNat % 8]? = some p) (ht : p.t = true) (hpl : p.l = none) : ATriple Try.prog gv R0 24 [.ref (0, 0) 0, i64V i] [.abs (slD cap taken low ps)] (.tup [chV [], .bool true]) [.abs (slD cap taken low ps)] (none) := by
  have hj := (List.getElem?_eq_some_iff.1 hg).1
  have hm := (List.getElem?_eq_some_iff.1 hp).1
  obtain ⟨c1, c2⟩ := pgC_get hp
  rw [hpl] at c2
  have c3 : PTriple Try.prog gv 44 [.nils] (chV []) := (copy_ok [] (by simp) (by simp)).of_nils
  refine ATriple.of_bodyW (C := cx3) Try.func24 rfl (by kernel_rfl) (mixedOf _) rfl (by simp [okA, okC, okN, pure_E, pure_nil]) (by simp [okOb, okC, okN, pure_E]) (by simp [okG, okA, okC, okN, pure_E, pure_nil]) (by simp [okOb, okC, okN, pure_E]) (fun o ho => by cases ho) 1 [.opn (0, 0) [17]] fun E hE => ?_
  repeat' (conv => whnf); first
   | (refine bcase_of (fun hr => ?_) (fun hr => ?_) <;> try (exfalso; simp at hr; done))
   | (apply And.intro; · first | exact Nat.le_of_ble_eq_true rfl | (show indep _ _ = true; kernel_rfl) | decide | exact ⟨by decide, by decide⟩ | exact ⟨Nat.le_of_ble_eq_true rfl, allOne_of rfl⟩ | exact ⟨rfl, rfl⟩ | exact pure_E _)
   | (apply Exists.intro; apply And.intro; · first | exact rfl | exact c3 | exact pages_get hg | exact c2)
   | (apply Exists.intro; apply Exists.intro; apply Exists.intro; apply And.intro; · first | (apply ATriple.callN (at_some cap taken low ps hl i h0 hg hp ht) <;> rfl))
   | fail
  all_goals refine ⟨[.shut (0, 0) (slD (cap) (taken) (low) (ps))], ?_⟩
  all_goals (conv => whnf)
  all_goals refine ⟨shut_sl (18, 1) (cap) (taken) (low) _ (rfl) (by simp), ?_⟩
  all_goals (conv => whnf)
  all_goals exact ⟨rfl, rfl⟩
theorem get_ok (cap taken low : Int) (ps : List (List Pl)) (hl : ps.length ≤ 1000) (i : Int) (h0 : 0 ≤ i) {g : List Pl} (hg : ps[i.toNat / 8]? = some g) {p : Pl} (hp : g[i.toNat % 8]? = some p) (ht : p.t = true) {l : List En} (hpl : p.l = some l) (hll : l.length ≤ 1000) (hb : ∀ e ∈ l, EnOk e) : ATriple Try.prog gv R0 24 [.ref (0, 0) 0, i64V i] [.abs (slD cap taken low ps)] (.tup [chV l, .bool true]) [.abs (slD cap taken low ps)] (none) := by
  have hj := (List.getElem?_eq_some_iff.1 hg).1
  have hm := (List.getElem?_eq_some_iff.1 hp).1
  obtain ⟨c1, c2⟩ := pgC_get hp
  rw [hpl] at c2
  have c3 := copy_ok l hll hb
  refine ATriple.of_bodyW (C := cx3) Try.func24 rfl (by kernel_rfl) (mixedOf _) rfl (by simp [okA, okC, okN, pure_E, pure_nil]) (by simp [okOb, okC, okN, pure_E]) (by simp [okG, okA, okC, okN, pure_E, pure_nil]) (by simp [okOb, okC, okN, pure_E]) (fun o ho => by cases ho) 1 [.opn (0, 0) [17]] fun E hE => ?_
  repeat' (conv => whnf); first
   | (refine bcase_of (fun hr => ?_) (fun hr => ?_) <;> try (exfalso; simp at hr; done))
   | (apply And.intro; · first | exact Nat.le_of_ble_eq_true rfl | (show indep _ _ = true; kernel_rfl) | decide | exact ⟨by decide, by decide⟩ | exact ⟨Nat.le_of_ble_eq_true rfl, allOne_of rfl⟩ | exact ⟨rfl, rfl⟩ | exact pure_E _)
   | (apply Exists.intro; apply And.intro; · first | exact rfl | exact c3 | exact pages_get hg | exact c2)
   | (apply Exists.intro; apply Exists.intro; apply Exists.intro; apply And.intro; · first | (apply ATriple.callN (at_some cap taken low ps hl i h0 hg hp ht) <;> rfl))
   | fail
  all_goals refine ⟨[.shut (0, 0) (slD (cap) (taken) (low) (ps))], ?_⟩
  all_goals (conv => whnf)
  all_goals refine ⟨shut_sl (18, 1) (cap) (taken) (low) _ (rfl) (by simp), ?_⟩
  all_goals (conv => whnf)
  all_goals exact ⟨rfl, rfl⟩
theorem free_ok (cap taken low : Int) (ps : List (List Pl)) (hl : ps.length ≤ 1000) (i : Int) (h0 : 0 ≤ i) {g : List Pl} (hg : ps[i.toNat / 8]? = some g) {p : Pl} (hp : g[i.toNat % 8]? = some p) (ht : p.t = true) : ATriple Try.prog gv R0 14 [.ref (0, 0) 0, i64V i] [.abs (slD cap taken low ps)] (.bool true) [.abs (slD cap (IntKind.i64.wrap (taken - 1)) (if i < low then i else low) (ps.set (i.toNat / 8) (g.set (i.toNat % 8) ⟨false, none⟩)))] (none) := by
  have hj := (List.getElem?_eq_some_iff.1 hg).1
  have hm := (List.getElem?_eq_some_iff.1 hp).1
  have hs : lset (ps.map pgD) (i.toNat / 8) (DV.mk (lput (pgC g) (i.toNat % 8 * 2) [.bool false, lV none]) []) = (ps.set (i.toNat / 8) (g.set (i.toNat % 8) ⟨false, none⟩)).map pgD := by rw [pgC_lay hm ⟨false, none⟩, pages_set]
  refine ATriple.of_bodyW (C := cx3) Try.func14 rfl (by kernel_rfl) (mixedOf _) rfl (by simp [okA, okC, okN, pure_E, pure_nil]) (by simp [okOb, okC, okN, pure_E]) (by simp [okG, okA, okC, okN, pure_E, pure_nil]) (by simp [okOb, okC, okN, pure_E]) (fun o ho => by cases ho) 1 [.opn (0, 0) [30]] fun E hE => ?_
  repeat' (conv => whnf); first
   | (refine bcase_of (fun hr => ?_) (fun hr => ?_) <;> try (exfalso; simp at hr; done))
   | (apply And.intro; · first | exact Nat.le_of_ble_eq_true rfl | (show indep _ _ = true; kernel_rfl) | decide | exact ⟨by decide, by decide⟩ | exact ⟨Nat.le_of_ble_eq_true rfl, allOne_of rfl⟩ | exact ⟨rfl, rfl⟩ | exact ⟨by rw [pgC_length]; show _ + 2 ≤ _; omega, trivial, trivial⟩)
   | (apply Exists.intro; apply And.intro; · first | exact rfl | exact pages_get hg)
   | (apply Exists.intro; apply Exists.intro; apply Exists.intro; apply And.intro; · first | (apply ATriple.callN (at_some cap taken low ps hl i h0 hg hp ht) <;> rfl))
   | fail
  all_goals refine ⟨[.shut (0, 0) (slD (cap) (IntKind.i64.wrap (taken - 1)) (if i < low then i else low) (ps.set (i.toNat / 8) (g.set (i.toNat % 8) ⟨false, none⟩)))], ?_⟩
  all_goals (conv => whnf)
  all_goals refine ⟨shut_sl (31, 1) (cap) (IntKind.i64.wrap (taken - 1)) (if i < low then i else low) _ (hs) (by simp), ?_⟩
  all_goals (conv => whnf)
  all_goals exact ⟨rfl, rfl⟩
end Go.Proofs.Ytbppemcdphgknaa
