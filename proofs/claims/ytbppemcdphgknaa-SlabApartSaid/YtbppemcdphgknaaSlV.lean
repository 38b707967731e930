/- Chapter 14: Put of nothing, of a row that was just made. -/
import Derived.Test.YtbppemcdphgknaaSlT
set_option linter.unusedVariables false
set_option linter.unusedSimpArgs false
namespace Go.Proofs.Ytbppemcdphgknaa
open Go Go.Vm
set_option maxRecDepth 100000
set_option maxHeartbeats 40000000
set_option linter.unusedSimpArgs false
set_option linter.unusedVariables false
theorem one_E' (l : List En) : (l.map encE).length = l.length := by simp
theorem put_nls (cap taken low : Int) (ps : List (List Pl)) (hl : ps.length ≤ 1000) (i : Int) (h0 : 0 ≤ i) {g : List Pl} (hg : ps[i.toNat / 8]? = some g) {p : Pl} (hp : g[i.toNat % 8]? = some p) (ht : p.t = true) : ATriple Try.prog gv R0 22 [.ref (0, 0) 0, i64V i, .nils] [.abs (slD cap taken low ps)] (.bool true) [.abs (slD cap taken low (ps.set (i.toNat / 8) (g.set (i.toNat % 8) ⟨true, some []⟩)))] (none) := by
  have hj := (List.getElem?_eq_some_iff.1 hg).1
  have hm := (List.getElem?_eq_some_iff.1 hp).1
  have hs : lset (ps.map pgD) (i.toNat / 8) (DV.mk (lput (pgC g) (i.toNat % 8 * 2 + 1) [lV (some [])]) []) = (ps.set (i.toNat / 8) (g.set (i.toNat % 8) ⟨true, some []⟩)).map pgD := by rw [pgC_put hp, pages_set, ht]
  have c3 : PTriple Try.prog gv 44 [.nils] (chV []) := (copy_ok [] (by simp) (by simp)).of_nils
  refine ATriple.of_bodyW (C := cx3) Try.func22 rfl (by kernel_rfl) (mixedOf _) rfl (by simp [okA, okC, okN, pure_E, pure_nil]) (by simp [okOb, okC, okN, pure_E]) (by simp [okG, okA, okC, okN, pure_E, pure_nil]) (by simp [okOb, okC, okN, pure_E]) (fun o ho => by cases ho) 1 [.opn (0, 0) [18]] fun E hE => ?_
  repeat' (conv => whnf); first
   | (refine bcase_of (fun hr => ?_) (fun hr => ?_) <;> try (exfalso; simp at hr; done))
   | (apply And.intro; · first | exact Nat.le_of_ble_eq_true rfl | (show indep _ _ = true; kernel_rfl) | decide | exact ⟨by decide, by decide⟩ | exact ⟨Nat.le_of_ble_eq_true rfl, allOne_of rfl⟩ | exact ⟨rfl, rfl⟩ | exact pure_E _ | exact ⟨by rw [pgC_length]; show _ + 1 ≤ _; omega, pure_E _⟩)
   | (apply Exists.intro; apply And.intro; · first | exact rfl | exact c3 | exact pages_get hg)
   | (apply Exists.intro; apply Exists.intro; apply Exists.intro; apply And.intro; · first | (apply ATriple.callN (at_some cap taken low ps hl i h0 hg hp ht) <;> rfl))
   | fail
  refine ⟨[.shut (0, 0) (slD cap taken low (ps.set (i.toNat / 8) (g.set (i.toNat % 8) ⟨true, some []⟩)))], ?_⟩
  conv => whnf
  refine ⟨shut_sl (19, 1) cap taken low _ hs (by simp), ?_⟩
  conv => whnf
  exact ⟨rfl, rfl⟩
theorem _root_.Go.Vm.Nilled.get {l l' : List V} (h : Nilled l' l) : ∀ {k : Nat} {v : V}, l[k]? = some v → ∃ v', l'[k]? = some v' ∧ (v' = v ∨ v' = .nils ∧ ∃ sz, v = .lst sz []) := by
  induction h with
  | nil => intro k v h; simp at h
  | same _ ih => intro k v h; cases k with
    | zero => simp at h; exact ⟨v, by simp [h], .inl rfl⟩
    | succ k => exact ih (by simpa using h)
  | nils _ ih => intro k v h; cases k with
    | zero => simp at h; exact ⟨.nils, rfl, .inr ⟨rfl, _, h.symm⟩⟩
    | succ k => exact ih (by simpa using h)
theorem _root_.Go.Vm.Nilled.length {l l' : List V} (h : Nilled l' l) : l'.length = l.length := by
  induction h with
  | nil => rfl
  | same _ ih => simp [ih]
  | nils _ ih => simp [ih]
theorem _root_.Go.Vm.VRel.lst1 {ρ : Rho} {M : Mem} {sz : Nat} {e e' : List V} (hN : Nilled e' e) {v : Value} (h : VRel ρ M (.lst sz [e']) v) : VRel ρ M (.lst sz [e]) v := by
  cases h with
  | lst vals h1 h2 h3 h4 =>
    refine VRel.lst (es := [e]) vals (fun x hx => ?_) (fun i k x v hi hk => ?_) h3 h4
    · obtain rfl : x = e := by simpa using hx
      rw [← hN.length]; exact h1 _ (by simp)
    · cases i with
      | succ i => simp at hi
      | zero =>
        obtain rfl : e = x := by simpa using hi
        obtain ⟨v', q1, q2⟩ := hN.get hk
        have := h2 0 k e' v' rfl q1
        rcases q2 with rfl | ⟨rfl, sz, rfl⟩
        · exact this
        · exact this.lst_of_nils
theorem _root_.Go.Vm.PTriple.lst1 {P : Program} {G : Nat → V} {f : FuncId} {sz : Nat} {e e' : List V} {r : V} (h : PTriple P G f [.lst sz [e]] r) (hN : Nilled e' e) : PTriple P G f [.lst sz [e']] r :=
  h.weak (fun _ _ h => by obtain ⟨v', r, rfl, h1, h2⟩ := h.uncons; exact .cons (h1.lst1 hN) h2) fun _ _ h => h
theorem put_row (cap taken low : Int) (ps : List (List Pl)) (hl : ps.length ≤ 1000) (i : Int) (h0 : 0 ≤ i) {g : List Pl} (hg : ps[i.toNat / 8]? = some g) {p : Pl} (hp : g[i.toNat % 8]? = some p) (ht : p.t = true) (l : List En) (e : List V) (c3 : PTriple Try.prog gv 44 [.lst 7 [e]] (chV l)) (pE : PureEs [e]) (h7 : e.length = 7) : ATriple Try.prog gv R0 22 [.ref (0, 0) 0, i64V i, .lst 7 [e]] [.abs (slD cap taken low ps)] (.bool true) [.abs (slD cap taken low (ps.set (i.toNat / 8) (g.set (i.toNat % 8) ⟨true, some l⟩)))] (none) := by
  have hj := (List.getElem?_eq_some_iff.1 hg).1
  have hm := (List.getElem?_eq_some_iff.1 hp).1
  have hs : lset (ps.map pgD) (i.toNat / 8) (DV.mk (lput (pgC g) (i.toNat % 8 * 2 + 1) [lV (some l)]) []) = (ps.set (i.toNat / 8) (g.set (i.toNat % 8) ⟨true, some l⟩)).map pgD := by rw [pgC_put hp, pages_set, ht]
  refine ATriple.of_bodyW (C := cx3) Try.func22 rfl (by kernel_rfl) (mixedOf _) rfl (by simp [okA, okC, okN, pE, pure_E, pure_nil]) (by simp [okOb, okC, okN, pE, pure_E]) (by simp [okG, okA, okC, okN, pE, pure_E, pure_nil]) (by simp [okOb, okC, okN, pE, pure_E]) (fun o ho => by cases ho) 1 [.opn (0, 0) [18]] fun E hE => ?_
  repeat' (conv => whnf); first
   | (refine bcase_of (fun hr => ?_) (fun hr => ?_) <;> try (exfalso; simp at hr; done))
   | (apply And.intro; · first | exact Nat.le_of_ble_eq_true rfl | (show indep _ _ = true; kernel_rfl) | decide | exact ⟨by decide, by decide⟩ | exact ⟨Nat.le_of_ble_eq_true rfl, allOne_of rfl⟩ | exact ⟨rfl, rfl⟩ | exact pure_E _ | exact pE | exact ⟨by rw [pgC_length]; show _ + 1 ≤ _; omega, pure_E _⟩)
   | (apply Exists.intro; apply And.intro; · first | exact rfl | exact c3 | exact pages_get hg)
   | (apply Exists.intro; apply Exists.intro; apply Exists.intro; apply And.intro; · first | (apply ATriple.callN (at_some cap taken low ps hl i h0 hg hp ht) <;> rfl))
   | fail
  refine ⟨[.shut (0, 0) (slD cap taken low (ps.set (i.toNat / 8) (g.set (i.toNat % 8) ⟨true, some l⟩)))], ?_⟩
  conv => whnf
  refine ⟨shut_sl (19, 1) cap taken low _ hs (by simp), ?_⟩
  conv => whnf
  exact ⟨rfl, rfl⟩
theorem putF0 {cap taken low : Int} {L : List Pl} (h : Inv low L) {i : Int} (hi : Has L i) : ATriple Try.prog gv R0 22 [.ref (0, 0) 0, i64V i, .nils] [.abs (slF cap taken low L)] (.bool true) [.abs (slF cap taken low (L.set i.toNat ⟨true, some []⟩))] none := by
  obtain ⟨h0, p, h1, h2⟩ := hi
  obtain ⟨g, q3, q4, q5⟩ := pg_place h.len h1
  have := put_nls cap taken low (pg L) (by have := h.pgl; omega) i h0 q3 q5 h2
  rw [pg_set h.len (List.getElem?_eq_some_iff.1 h1).1 q3] at this
  exact this
theorem putFr {cap taken low : Int} {L : List Pl} (h : Inv low L) {i : Int} (hi : Has L i) (l : List En) (e : List V) (c3 : PTriple Try.prog gv 44 [.lst 7 [e]] (chV l)) (pE : PureEs [e]) (h7 : e.length = 7) : ATriple Try.prog gv R0 22 [.ref (0, 0) 0, i64V i, .lst 7 [e]] [.abs (slF cap taken low L)] (.bool true) [.abs (slF cap taken low (L.set i.toNat ⟨true, some l⟩))] none := by
  obtain ⟨h0, p, h1, h2⟩ := hi
  obtain ⟨g, q3, q4, q5⟩ := pg_place h.len h1
  have := put_row cap taken low (pg L) (by have := h.pgl; omega) i h0 q3 q5 h2 l e c3 pE h7
  rw [pg_set h.len (List.getElem?_eq_some_iff.1 h1).1 q3] at this
  exact this
end Go.Proofs.Ytbppemcdphgknaa
