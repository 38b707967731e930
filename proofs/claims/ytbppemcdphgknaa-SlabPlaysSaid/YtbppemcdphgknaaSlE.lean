/- Chapter 14: the slab: Put. -/
import Derived.Test.YtbppemcdphgknaaSlC
set_option linter.unusedVariables false
set_option linter.unusedSimpArgs false
namespace Go.Proofs.Ytbppemcdphgknaa
open Go Go.Vm
set_option maxRecDepth 100000
set_option maxHeartbeats 40000000
set_option linter.unusedSimpArgs false
set_option linter.unusedVariables false
theorem pgC_length (g : List Pl) : (pgC g).length = g.length * 2 := by
  induction g with
  | nil => rfl
  | cons x r ih =>
    have : (pgC (x :: r)).length = (pgC r).length + 2 := rfl
    rw [this, ih, List.length_cons]; omega
theorem lput_cons2 {α : Type} (x y : α) (r : List α) (k : Nat) (n : List α) : lput (x :: y :: r) (k + 2) n = x :: y :: lput r k n := by
  have e : k + 2 + n.length = (k + n.length) + 1 + 1 := by omega
  simp only [lput, e, List.take_succ_cons, List.drop_succ_cons, List.cons_append]
theorem pgC_put {g : List Pl} {m : Nat} {p : Pl} (h : g[m]? = some p) (l : Option (List En)) : lput (pgC g) (m * 2 + 1) [lV l] = pgC (g.set m ⟨p.t, l⟩) := by
  induction g generalizing m with
  | nil => simp at h
  | cons x r ih =>
    cases m with
    | zero => simp at h; subst h; rfl
    | succ m =>
      have := ih (m := m) (by simpa using h)
      show lput (.bool x.t :: lV x.l :: pgC r) _ _ = .bool x.t :: lV x.l :: pgC (r.set m ⟨p.t, l⟩)
      rw [show (m + 1) * 2 + 1 = m * 2 + 1 + 2 by omega, lput_cons2, this]
theorem pgC_lay {g : List Pl} {m : Nat} (h : m < g.length) (q : Pl) : lput (pgC g) (m * 2) [.bool q.t, lV q.l] = pgC (g.set m q) := by
  induction g generalizing m with
  | nil => simp at h
  | cons x r ih =>
    cases m with
    | zero => rfl
    | succ m =>
      have := ih (m := m) (by simpa using h)
      show lput (.bool x.t :: lV x.l :: pgC r) _ _ = .bool x.t :: lV x.l :: pgC (r.set m q)
      rw [show (m + 1) * 2 = m * 2 + 2 by omega, lput_cons2, this]
theorem pages_set (ps : List (List Pl)) (j : Nat) (g : List Pl) : lset (ps.map pgD) j (DV.mk (pgC g) []) = (ps.set j g).map pgD := by
  rw [lset_eq, List.map_set]; rfl
theorem shut_sl (m : Name) (cap taken low : Int) (ps : List (List Pl)) {xs : List DV} (h : xs = ps.map pgD) {n : Nat} (hn : ps.length = n) : Shut (slD cap taken low ps) [m] [i64V cap, i64V taken, i64V low, .rsl m 1 0 n] [.prow xs] := by
  subst h hn
  exact ⟨rfl, .cons (.refl _) .nil, by simp [slD, Deep.op, okC, okN], by simp [slD, Deep.op, okOb]⟩
theorem lV_ok (l : Option (List En)) : okC 0 (lV l) := by
  cases l with
  | none => trivial
  | some l => exact pure_E l
theorem put_ok (cap taken low : Int) (ps : List (List Pl)) (hl : ps.length ≤ 1000) (i : Int) (h0 : 0 ≤ i) {g : List Pl} (hg : ps[i.toNat / 8]? = some g) {p : Pl} (hp : g[i.toNat % 8]? = some p) (ht : p.t = true) (l : List En) (hll : l.length ≤ 1000) (hb : ∀ e ∈ l, EnOk e) : ATriple Try.prog gv R0 22 [.ref (0, 0) 0, i64V i, chV l] [.abs (slD cap taken low ps)] (.bool true) [.abs (slD cap taken low (ps.set (i.toNat / 8) (g.set (i.toNat % 8) ⟨true, some l⟩)))] (none) := by
  have hj := (List.getElem?_eq_some_iff.1 hg).1
  have hm := (List.getElem?_eq_some_iff.1 hp).1
  have hs : lset (ps.map pgD) (i.toNat / 8) (DV.mk (lput (pgC g) (i.toNat % 8 * 2 + 1) [lV (some l)]) []) = (ps.set (i.toNat / 8) (g.set (i.toNat % 8) ⟨true, some l⟩)).map pgD := by rw [pgC_put hp, pages_set, ht]
  refine ATriple.of_bodyW (C := cx3) Try.func22 rfl (by kernel_rfl) (mixedOf _) rfl (by simp [okA, okC, okN, pure_E, pure_nil]) (by simp [okOb, okC, okN, pure_E]) (by simp [okG, okA, okC, okN, pure_E, pure_nil]) (by simp [okOb, okC, okN, pure_E]) (fun o ho => by cases ho) 1 [.opn (0, 0) [18]] fun E hE => ?_
  repeat' (conv => whnf); first
   | (refine bcase_of (fun hr => ?_) (fun hr => ?_) <;> try (exfalso; simp at hr; done))
   | (apply And.intro; · first | exact Nat.le_of_ble_eq_true rfl | (show indep _ _ = true; kernel_rfl) | decide | exact ⟨by decide, by decide⟩ | exact ⟨Nat.le_of_ble_eq_true rfl, allOne_of rfl⟩ | exact ⟨rfl, rfl⟩ | exact pure_E _ | exact ⟨by rw [pgC_length]; show _ + 1 ≤ _; omega, pure_E _⟩)
   | (apply Exists.intro; apply And.intro; · first | exact rfl | exact copy_ok l hll hb | exact pages_get hg)
   | (apply Exists.intro; apply Exists.intro; apply Exists.intro; apply And.intro; · first | (apply ATriple.callN (at_some cap taken low ps hl i h0 hg hp ht) <;> rfl))
   | fail
  refine ⟨[.shut (0, 0) (slD cap taken low (ps.set (i.toNat / 8) (g.set (i.toNat % 8) ⟨true, some l⟩)))], ?_⟩
  conv => whnf
  refine ⟨shut_sl (19, 1) cap taken low _ hs (by simp), ?_⟩
  conv => whnf
  exact ⟨rfl, rfl⟩
end Go.Proofs.Ytbppemcdphgknaa
