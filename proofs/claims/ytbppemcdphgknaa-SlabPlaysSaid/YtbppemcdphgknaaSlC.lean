/- Chapter 14: the slab: at. -/
import Derived.Test.YtbppemcdphgknaaSlB
set_option linter.unusedVariables false
set_option linter.unusedSimpArgs false
namespace Go.Proofs.Ytbppemcdphgknaa
open Go Go.Vm
set_option maxRecDepth 100000
set_option maxHeartbeats 40000000
set_option linter.unusedSimpArgs false
set_option linter.unusedVariables false
/-- A place: is it taken, what it has (none: nil). -/
structure Pl where
  t : Bool
  l : Option (List En)
def lV : Option (List En) → V
  | none => .nils
  | some l => chV l
def plC (p : Pl) : List V := [.bool p.t, lV p.l]
def pgC (g : List Pl) : List V := (g.map plC).flatten
def pgD (g : List Pl) : DV := .mk (pgC g) []
abbrev slC (n : Name) (cap taken low : Int) (ps : List (List Pl)) : List V := [i64V cap, i64V taken, i64V low, .rsl n 1 0 ps.length]
def slD (cap taken low : Int) (ps : List (List Pl)) : DV := .mk (slC (0, 0) cap taken low ps) [.prow (ps.map pgD)]
theorem pgC_get {g : List Pl} {m : Nat} {p : Pl} (h : g[m]? = some p) : lget (pgC g) (m * 2) = some (.bool p.t) ∧ lget (pgC g) (m * 2 + 1) = some (lV p.l) := by
  induction g generalizing m with
  | nil => simp at h
  | cons x r ih =>
    cases m with
    | zero => simp at h; subst h; exact ⟨rfl, rfl⟩
    | succ m =>
      obtain ⟨h1, h2⟩ := ih (m := m) (by simpa using h)
      have e : ∀ k, lget (pgC (x :: r)) (k + 2) = lget (pgC r) k := fun k => rfl
      rw [Nat.succ_mul]
      exact ⟨(e _).trans h1, by rw [show m * 2 + 2 + 1 = m * 2 + 1 + 2 by omega]; exact (e _).trans h2⟩
theorem pages_get {ps : List (List Pl)} {j : Nat} {g : List Pl} (h : ps[j]? = some g) : lget (ps.map pgD) j = some (pgD g) := by
  rw [lget_eq, List.getElem?_map, h]; rfl
theorem div8 {i : Int} (h : 0 ≤ i) (h' : i ≤ 100000) : IntKind.i64.wrap (i.tdiv 8) = (i.toNat / 8 : Nat) := by
  have h1 : i.tdiv 8 = (i.toNat / 8 : Nat) := by
    obtain ⟨n, rfl⟩ := Int.eq_ofNat_of_zero_le h
    rw [Int.toNat_natCast]; rfl
  rw [h1]; exact wrap64 (by omega) (by omega)
theorem mod8 {i : Int} (h : 0 ≤ i) : i.tmod 8 = (i.toNat % 8 : Nat) := by
  obtain ⟨n, rfl⟩ := Int.eq_ofNat_of_zero_le h
  rw [Int.toNat_natCast]; rfl
noncomputable def cx3 : Cx DV := cxOf [(42, 3), (12, 1), (13, 1), (14, 1), (15, 1), (16, 1), (22, 1), (24, 1)]
abbrev R0 : Rep DV := dvRep DV
theorem at_some (cap taken low : Int) (ps : List (List Pl)) (hl : ps.length ≤ 1000) (i : Int) (h0 : 0 ≤ i) {g : List Pl} (hg : ps[i.toNat / 8]? = some g) {p : Pl} (hp : g[i.toNat % 8]? = some p) (ht : p.t = true) :
    ATriple Try.prog gv R0 42 [.ref (0, 0) 0, i64V i] [.box (slC (0, 1) cap taken low ps), .prow (ps.map pgD)] (.sub (0, 1) (i.toNat / 8) (i.toNat % 8 * 2)) [.box (slC (0, 1) cap taken low ps), .prow (ps.map pgD)] none := by
  have hj := (List.getElem?_eq_some_iff.1 hg).1
  have hd := div8 h0 (by omega)
  have hm := mod8 h0
  have hw : IntKind.i64.wrap ((ps.length : Int) * 8) = ps.length * 8 := wrap64 (by omega) (by omega)
  obtain ⟨c1, c2⟩ := pgC_get hp
  rw [ht] at c1
  refine ATriple.of_bodyW (C := cx3) Try.func42 rfl (by kernel_rfl) (mixedOf _) rfl (by simp [okA, okC, okN]) (by simp [okOb, okC, okN]) (by simp [okG, okA, okC, okN]) (by simp [okOb, okC, okN]) (fun o ho => by cases ho) 0 [] fun E hE => ?_
  repeat' (conv => whnf); first
   | (refine bcase_of (fun hr => ?_) (fun hr => ?_) <;> try (exfalso; simp at hr; omega))
   | (apply And.intro; · first | exact Nat.le_of_ble_eq_true rfl | (show indep _ _ = true; kernel_rfl) | decide | exact ⟨by decide, by decide⟩ | exact ⟨Nat.le_of_ble_eq_true rfl, allOne_of rfl⟩ | exact ⟨by rw [hd]; omega, by rw [hd]; omega⟩ | (rw [hd, Int.toNat_natCast, Nat.zero_add, List.length_map]; exact hj) | exact ⟨by rw [hm]; omega, by rw [hm]; omega⟩)
   | (apply Exists.intro; apply And.intro; · first | exact rfl | (rw [hd, Nat.zero_add, Int.toNat_natCast]; exact pages_get hg) | (show lget (pgC g) (0 + (i.tmod 8).toNat * 2 + 0) = some _; rw [hm, Nat.zero_add, Int.toNat_natCast]; exact c1))
   | fail
  refine ⟨[], ?_⟩
  conv => whnf
  refine ⟨?_, rfl⟩
  show V.sub _ (0 + _) (0 + _ * 2) = _
  rw [hd, hm, Int.toNat_natCast, Int.toNat_natCast, Nat.zero_add, Nat.zero_add]
theorem at_free (cap taken low : Int) (ps : List (List Pl)) (hl : ps.length ≤ 1000) (i : Int) (h0 : 0 ≤ i) {g : List Pl} (hg : ps[i.toNat / 8]? = some g) {p : Pl} (hp : g[i.toNat % 8]? = some p) (ht : p.t = false) :
    ATriple Try.prog gv R0 42 [.ref (0, 0) 0, i64V i] [.box (slC (0, 1) cap taken low ps), .prow (ps.map pgD)] .nilp [.box (slC (0, 1) cap taken low ps), .prow (ps.map pgD)] none := by
  have hj := (List.getElem?_eq_some_iff.1 hg).1
  have hd := div8 h0 (by omega)
  have hm := mod8 h0
  have hw : IntKind.i64.wrap ((ps.length : Int) * 8) = ps.length * 8 := wrap64 (by omega) (by omega)
  obtain ⟨c1, c2⟩ := pgC_get hp
  rw [ht] at c1
  refine ATriple.of_bodyW (C := cx3) Try.func42 rfl (by kernel_rfl) (mixedOf _) rfl (by simp [okA, okC, okN]) (by simp [okOb, okC, okN]) (by simp [okG, okA, okC, okN]) (by simp [okOb, okC, okN]) (fun o ho => by cases ho) 0 [] fun E hE => ?_
  repeat' (conv => whnf); first
   | (refine bcase_of (fun hr => ?_) (fun hr => ?_) <;> try (exfalso; simp at hr; omega))
   | (apply And.intro; · first | exact Nat.le_of_ble_eq_true rfl | (show indep _ _ = true; kernel_rfl) | decide | exact ⟨by decide, by decide⟩ | exact ⟨Nat.le_of_ble_eq_true rfl, allOne_of rfl⟩ | exact ⟨by rw [hd]; omega, by rw [hd]; omega⟩ | (rw [hd, Int.toNat_natCast, Nat.zero_add, List.length_map]; exact hj) | exact ⟨by rw [hm]; omega, by rw [hm]; omega⟩)
   | (apply Exists.intro; apply And.intro; · first | exact rfl | (rw [hd, Nat.zero_add, Int.toNat_natCast]; exact pages_get hg) | (show lget (pgC g) (0 + (i.tmod 8).toNat * 2 + 0) = some _; rw [hm, Nat.zero_add, Int.toNat_natCast]; exact c1))
   | fail
  refine ⟨[], ?_⟩
  conv => whnf
  exact ⟨rfl, rfl⟩
theorem at_out (cap taken low : Int) (ps : List (List Pl)) (hl : ps.length ≤ 1000) (i : Int) (h0 : i < 0 ∨ ps.length * 8 ≤ i) :
    ATriple Try.prog gv R0 42 [.ref (0, 0) 0, i64V i] [.box (slC (0, 1) cap taken low ps), .prow (ps.map pgD)] .nilp [.box (slC (0, 1) cap taken low ps), .prow (ps.map pgD)] none := by
  have hw : IntKind.i64.wrap ((ps.length : Int) * 8) = ps.length * 8 := wrap64 (by omega) (by omega)
  refine ATriple.of_bodyW (C := cx3) Try.func42 rfl (by kernel_rfl) (mixedOf _) rfl (by simp [okA, okC, okN]) (by simp [okOb, okC, okN]) (by simp [okG, okA, okC, okN]) (by simp [okOb, okC, okN]) (fun o ho => by cases ho) 0 [] fun E hE => ?_
  repeat' (conv => whnf); first
   | (refine bcase_of (fun hr => ?_) (fun hr => ?_) <;> try (exfalso; simp at *; omega))
   | (apply And.intro; · first | exact Nat.le_of_ble_eq_true rfl | (show indep _ _ = true; kernel_rfl) | decide | exact ⟨by decide, by decide⟩ | exact ⟨Nat.le_of_ble_eq_true rfl, allOne_of rfl⟩)
   | (apply Exists.intro; apply And.intro; · first | exact rfl)
   | fail
  all_goals refine ⟨[], ?_⟩
  all_goals (conv => whnf)
  all_goals exact ⟨rfl, rfl⟩
end Go.Proofs.Ytbppemcdphgknaa
