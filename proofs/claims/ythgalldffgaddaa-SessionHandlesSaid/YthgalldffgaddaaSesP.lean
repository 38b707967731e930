/- Chapter 24: what its functions come to (SesP). -/
import Derived.Test.YthgalldffgaddaaSesO
set_option linter.unusedVariables false
set_option linter.unusedSimpArgs false
namespace Go.Proofs.Ythgalldffgaddaa
open Go Go.Vm
set_option maxRecDepth 100000
set_option maxHeartbeats 4000000
set_option linter.unusedSimpArgs false
abbrev rcellsS (s : Ss) : List V := rcells s.k s.l s.n s.a s.b s.c s.d s.e s.f
def hasB (s : Ss) (p t : Int) : Bool := if p = 0 then (s.a.opn && (s.a.turn == t)) else if p = 1 then (s.b.opn && (s.b.turn == t)) else if p = 2 then (s.c.opn && (s.c.turn == t)) else if p = 3 then (s.d.opn && (s.d.turn == t)) else if p = 4 then (s.e.opn && (s.e.turn == t)) else if p = 5 then (s.f.opn && (s.f.turn == t)) else false
def rcloseS (s : Ss) (p t : Int) : Ss := if s.a.opn = true ∧ p = 0 ∧ t = s.a.turn then { s with a := ⟨s.a.turn, false, s.a.ver, s.a.till⟩ } else if s.b.opn = true ∧ p = 1 ∧ t = s.b.turn then { s with b := ⟨s.b.turn, false, s.b.ver, s.b.till⟩ } else if s.c.opn = true ∧ p = 2 ∧ t = s.c.turn then { s with c := ⟨s.c.turn, false, s.c.ver, s.c.till⟩ } else if s.d.opn = true ∧ p = 3 ∧ t = s.d.turn then { s with d := ⟨s.d.turn, false, s.d.ver, s.d.till⟩ } else if s.e.opn = true ∧ p = 4 ∧ t = s.e.turn then { s with e := ⟨s.e.turn, false, s.e.ver, s.e.till⟩ } else if s.f.opn = true ∧ p = 5 ∧ t = s.f.turn then { s with f := ⟨s.f.turn, false, s.f.ver, s.f.till⟩ } else s
theorem rhas_ok (s : Ss) (p t : Int) : ATriple Try.prog gv noRep 27 [.ref (0, 0) 0, hdl p t] [.box (rcellsS s)] (.bool (hasB s p t)) [.box (rcellsS s)] none := by
  simp only [hasB]
  by_cases h0 : p = 0
  · simp only [if_pos h0]
    subst h0
    exact rhas_0 s.k s.l s.n s.a s.b s.c s.d s.e s.f t
  by_cases h1 : p = 1
  · simp only [if_pos h1, if_neg h0]
    subst h1
    exact rhas_1 s.k s.l s.n s.a s.b s.c s.d s.e s.f t
  by_cases h2 : p = 2
  · simp only [if_pos h2, if_neg h0, if_neg h1]
    subst h2
    exact rhas_2 s.k s.l s.n s.a s.b s.c s.d s.e s.f t
  by_cases h3 : p = 3
  · simp only [if_pos h3, if_neg h0, if_neg h1, if_neg h2]
    subst h3
    exact rhas_3 s.k s.l s.n s.a s.b s.c s.d s.e s.f t
  by_cases h4 : p = 4
  · simp only [if_pos h4, if_neg h0, if_neg h1, if_neg h2, if_neg h3]
    subst h4
    exact rhas_4 s.k s.l s.n s.a s.b s.c s.d s.e s.f t
  by_cases h5 : p = 5
  · simp only [if_pos h5, if_neg h0, if_neg h1, if_neg h2, if_neg h3, if_neg h4]
    subst h5
    exact rhas_5 s.k s.l s.n s.a s.b s.c s.d s.e s.f t
  simp only [if_neg h0, if_neg h1, if_neg h2, if_neg h3, if_neg h4, if_neg h5]
  exact rhas_out s.k s.l s.n s.a s.b s.c s.d s.e s.f p t (by omega)
theorem rclose_ok (s : Ss) (p t : Int) : ATriple Try.prog gv noRep 15 [.ref (0, 0) 0, hdl p t] [.box (rcellsS s)] (i64V (closeE s p t)) [.box (rcellsS (rcloseS s p t))] none := by
  simp only [closeE, rcloseS]
  by_cases h0 : s.a.opn = true ∧ p = 0 ∧ t = s.a.turn
  · simp only [if_pos h0]
    obtain ⟨ho, rfl, rfl⟩ := h0
    exact rclose_0 s.k s.l s.n s.a s.b s.c s.d s.e s.f ho
  by_cases h1 : s.b.opn = true ∧ p = 1 ∧ t = s.b.turn
  · simp only [if_pos h1, if_neg h0]
    obtain ⟨ho, rfl, rfl⟩ := h1
    exact rclose_1 s.k s.l s.n s.a s.b s.c s.d s.e s.f ho
  by_cases h2 : s.c.opn = true ∧ p = 2 ∧ t = s.c.turn
  · simp only [if_pos h2, if_neg h0, if_neg h1]
    obtain ⟨ho, rfl, rfl⟩ := h2
    exact rclose_2 s.k s.l s.n s.a s.b s.c s.d s.e s.f ho
  by_cases h3 : s.d.opn = true ∧ p = 3 ∧ t = s.d.turn
  · simp only [if_pos h3, if_neg h0, if_neg h1, if_neg h2]
    obtain ⟨ho, rfl, rfl⟩ := h3
    exact rclose_3 s.k s.l s.n s.a s.b s.c s.d s.e s.f ho
  by_cases h4 : s.e.opn = true ∧ p = 4 ∧ t = s.e.turn
  · simp only [if_pos h4, if_neg h0, if_neg h1, if_neg h2, if_neg h3]
    obtain ⟨ho, rfl, rfl⟩ := h4
    exact rclose_4 s.k s.l s.n s.a s.b s.c s.d s.e s.f ho
  by_cases h5 : s.f.opn = true ∧ p = 5 ∧ t = s.f.turn
  · simp only [if_pos h5, if_neg h0, if_neg h1, if_neg h2, if_neg h3, if_neg h4]
    obtain ⟨ho, rfl, rfl⟩ := h5
    exact rclose_5 s.k s.l s.n s.a s.b s.c s.d s.e s.f ho
  simp only [if_neg h0, if_neg h1, if_neg h2, if_neg h3, if_neg h4, if_neg h5]
  by_cases k0 : p = 0
  · subst k0
    refine rclose_n0 s.k s.l s.n s.a s.b s.c s.d s.e s.f t ?_
    cases ho : s.a.opn with
    | false => rfl
    | true =>
      have : ¬ t = s.a.turn := fun e => h0 ⟨ho, rfl, e⟩
      simp only [Bool.true_and, beq_eq_false_iff_ne, ne_eq]
      exact fun e => this e.symm
  by_cases k1 : p = 1
  · subst k1
    refine rclose_n1 s.k s.l s.n s.a s.b s.c s.d s.e s.f t ?_
    cases ho : s.b.opn with
    | false => rfl
    | true =>
      have : ¬ t = s.b.turn := fun e => h1 ⟨ho, rfl, e⟩
      simp only [Bool.true_and, beq_eq_false_iff_ne, ne_eq]
      exact fun e => this e.symm
  by_cases k2 : p = 2
  · subst k2
    refine rclose_n2 s.k s.l s.n s.a s.b s.c s.d s.e s.f t ?_
    cases ho : s.c.opn with
    | false => rfl
    | true =>
      have : ¬ t = s.c.turn := fun e => h2 ⟨ho, rfl, e⟩
      simp only [Bool.true_and, beq_eq_false_iff_ne, ne_eq]
      exact fun e => this e.symm
  by_cases k3 : p = 3
  · subst k3
    refine rclose_n3 s.k s.l s.n s.a s.b s.c s.d s.e s.f t ?_
    cases ho : s.d.opn with
    | false => rfl
    | true =>
      have : ¬ t = s.d.turn := fun e => h3 ⟨ho, rfl, e⟩
      simp only [Bool.true_and, beq_eq_false_iff_ne, ne_eq]
      exact fun e => this e.symm
  by_cases k4 : p = 4
  · subst k4
    refine rclose_n4 s.k s.l s.n s.a s.b s.c s.d s.e s.f t ?_
    cases ho : s.e.opn with
    | false => rfl
    | true =>
      have : ¬ t = s.e.turn := fun e => h4 ⟨ho, rfl, e⟩
      simp only [Bool.true_and, beq_eq_false_iff_ne, ne_eq]
      exact fun e => this e.symm
  by_cases k5 : p = 5
  · subst k5
    refine rclose_n5 s.k s.l s.n s.a s.b s.c s.d s.e s.f t ?_
    cases ho : s.f.opn with
    | false => rfl
    | true =>
      have : ¬ t = s.f.turn := fun e => h5 ⟨ho, rfl, e⟩
      simp only [Bool.true_and, beq_eq_false_iff_ne, ne_eq]
      exact fun e => this e.symm
  exact rclose_out s.k s.l s.n s.a s.b s.c s.d s.e s.f p t (by omega)
theorem ropen_ok (s : Ss) (v : Int) : ATriple Try.prog gv noRep 13 [.ref (0, 0) 0, i64V v] [.box (rcellsS s)] (.agg [i64V (openP s v), i64V (openT s v), i64V (openE s v)]) [.box (rcellsS (openS s v))] none := by
  by_cases hv : v < 0
  · simp only [openP, openT, openE, openS, if_pos hv]
    exact ropen_neg s.k s.l s.n s.a s.b s.c s.d s.e s.f v hv
  simp only [openP, openT, openE, openS, if_neg hv]
  have hv0 : 0 ≤ v := by omega
  by_cases h0 : s.a.opn = false
  · simp only [if_pos h0]
    exact ropen_0 s.k s.l s.n s.a s.b s.c s.d s.e s.f v hv0  h0
  by_cases h1 : s.b.opn = false
  · simp only [if_pos h1, if_neg h0]
    exact ropen_1 s.k s.l s.n s.a s.b s.c s.d s.e s.f v hv0 (by simpa using h0) h1
  by_cases h2 : s.c.opn = false
  · simp only [if_pos h2, if_neg h0, if_neg h1]
    exact ropen_2 s.k s.l s.n s.a s.b s.c s.d s.e s.f v hv0 (by simpa using h0) (by simpa using h1) h2
  by_cases h3 : s.d.opn = false
  · simp only [if_pos h3, if_neg h0, if_neg h1, if_neg h2]
    exact ropen_3 s.k s.l s.n s.a s.b s.c s.d s.e s.f v hv0 (by simpa using h0) (by simpa using h1) (by simpa using h2) h3
  by_cases h4 : s.e.opn = false
  · simp only [if_pos h4, if_neg h0, if_neg h1, if_neg h2, if_neg h3]
    exact ropen_4 s.k s.l s.n s.a s.b s.c s.d s.e s.f v hv0 (by simpa using h0) (by simpa using h1) (by simpa using h2) (by simpa using h3) h4
  by_cases h5 : s.f.opn = false
  · simp only [if_pos h5, if_neg h0, if_neg h1, if_neg h2, if_neg h3, if_neg h4]
    exact ropen_5 s.k s.l s.n s.a s.b s.c s.d s.e s.f v hv0 (by simpa using h0) (by simpa using h1) (by simpa using h2) (by simpa using h3) (by simpa using h4) h5
  simp only [if_neg h0, if_neg h1, if_neg h2, if_neg h3, if_neg h4, if_neg h5]
  exact ropen_full s.k s.l s.n s.a s.b s.c s.d s.e s.f v hv0 (by simpa using h0) (by simpa using h1) (by simpa using h2) (by simpa using h3) (by simpa using h4) (by simpa using h5)
/-- A place of the program's and one of the document's. -/
structure Rp (q r : Plc) : Prop where
  opn : q.opn = r.opn
  turn : q.turn = r.turn
  ver : q.opn = true → q.ver = r.ver ∧ q.till = r.till ∧ 0 ≤ r.ver
structure Rs (s w : Ss) : Prop where
  k : s.k = w.k
  l : s.l = w.l
  n : s.n = w.n
  kin : 2 ≤ w.k ∧ w.k ≤ 8
  nin : 0 ≤ w.n ∧ w.n ≤ 1099511627776
  a : Rp s.a w.a
  b : Rp s.b w.b
  c : Rp s.c w.c
  d : Rp s.d w.d
  e : Rp s.e w.e
  f : Rp s.f w.f
theorem over_iff {s w : Ss} (h : Rs s w) {q r : Plc} (hq : Rp q r) (ho : q.opn = true) {dn : Int} (hd : -9223372036854775808 ≤ dn ∧ dn < 9223372036854775808) :
    over s q dn ↔ (r.ver ≤ dn ∧ w.k ≤ IntKind.i64.wrap (dn - r.ver)) ∨ r.till < w.n := by
  obtain ⟨h1, h2, h3⟩ := hq.ver ho
  have hk := h.kin
  unfold over
  rw [h.k, h.n, h1, h2]
  constructor
  · rintro (⟨h4, h5⟩ | h4)
    · rw [wrapI64 (by omega) (by omega)] at h5
      refine .inl ⟨by omega, ?_⟩
      rw [wrapI64 (by omega) (by omega)]; omega
    · exact .inr h4
  · rintro (⟨h4, h5⟩ | h4)
    · rw [wrapI64 (by omega) (by omega)] at h5
      refine .inl ⟨by omega, ?_⟩
      rw [wrapI64 (by omega) (by omega)]; omega
    · exact .inr h4
end Go.Proofs.Ythgalldffgaddaa
