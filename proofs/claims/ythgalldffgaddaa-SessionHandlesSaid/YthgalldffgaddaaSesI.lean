/- Chapter 24: what its functions come to (SesI). -/
import Derived.Test.YthgalldffgaddaaSesH
set_option linter.unusedVariables false
set_option linter.unusedSimpArgs false
namespace Go.Proofs.Ythgalldffgaddaa
open Go Go.Vm
set_option maxRecDepth 100000
set_option maxHeartbeats 4000000
set_option linter.unusedSimpArgs false
structure Ss where
  k : Int
  l : Int
  n : Int
  a : Plc
  b : Plc
  c : Plc
  d : Plc
  e : Plc
  f : Plc
abbrev cellsS (s : Ss) : List V := cells s.k s.l s.n s.a s.b s.c s.d s.e s.f
def opened (s : Ss) (p : Plc) (v : Int) : Plc := ⟨IntKind.i64.wrap (p.turn + 1), true, v, IntKind.i64.wrap (s.n + s.l)⟩
def openS (s : Ss) (v : Int) : Ss := if v < 0 then s else if s.a.opn = false then { s with a := opened s s.a v } else if s.b.opn = false then { s with b := opened s s.b v } else if s.c.opn = false then { s with c := opened s s.c v } else if s.d.opn = false then { s with d := opened s s.d v } else if s.e.opn = false then { s with e := opened s s.e v } else if s.f.opn = false then { s with f := opened s s.f v } else s
def openP (s : Ss) (v : Int) : Int := if v < 0 then 0 else if s.a.opn = false then 0 else if s.b.opn = false then 1 else if s.c.opn = false then 2 else if s.d.opn = false then 3 else if s.e.opn = false then 4 else if s.f.opn = false then 5 else 0
def openT (s : Ss) (v : Int) : Int := if v < 0 then 0 else if s.a.opn = false then IntKind.i64.wrap (s.a.turn + 1) else if s.b.opn = false then IntKind.i64.wrap (s.b.turn + 1) else if s.c.opn = false then IntKind.i64.wrap (s.c.turn + 1) else if s.d.opn = false then IntKind.i64.wrap (s.d.turn + 1) else if s.e.opn = false then IntKind.i64.wrap (s.e.turn + 1) else if s.f.opn = false then IntKind.i64.wrap (s.f.turn + 1) else 0
def openE (s : Ss) (v : Int) : Int := if v < 0 then 1 else if s.a.opn = false then 0 else if s.b.opn = false then 0 else if s.c.opn = false then 0 else if s.d.opn = false then 0 else if s.e.opn = false then 0 else if s.f.opn = false then 0 else 10
theorem open_ok (s : Ss) (v : Int) : ATriple Try.prog gv noRep 12 [.ref (0, 0) 0, i64V v] [.box (cellsS s)] (.tup [hdl (openP s v) (openT s v), i64V (openE s v)]) [.box (cellsS (openS s v))] none := by
  by_cases hv : v < 0
  · simp only [openP, openT, openE, openS, if_pos hv]
    exact open_neg s.k s.l s.n s.a s.b s.c s.d s.e s.f v hv
  simp only [openP, openT, openE, openS, if_neg hv]
  have hv0 : 0 ≤ v := by omega
  by_cases h0 : s.a.opn = false
  · simp only [if_pos h0]
    exact open_0 s.k s.l s.n s.a s.b s.c s.d s.e s.f v hv0  h0
  by_cases h1 : s.b.opn = false
  · simp only [if_pos h1, if_neg h0]
    exact open_1 s.k s.l s.n s.a s.b s.c s.d s.e s.f v hv0 (by simpa using h0) h1
  by_cases h2 : s.c.opn = false
  · simp only [if_pos h2, if_neg h0, if_neg h1]
    exact open_2 s.k s.l s.n s.a s.b s.c s.d s.e s.f v hv0 (by simpa using h0) (by simpa using h1) h2
  by_cases h3 : s.d.opn = false
  · simp only [if_pos h3, if_neg h0, if_neg h1, if_neg h2]
    exact open_3 s.k s.l s.n s.a s.b s.c s.d s.e s.f v hv0 (by simpa using h0) (by simpa using h1) (by simpa using h2) h3
  by_cases h4 : s.e.opn = false
  · simp only [if_pos h4, if_neg h0, if_neg h1, if_neg h2, if_neg h3]
    exact open_4 s.k s.l s.n s.a s.b s.c s.d s.e s.f v hv0 (by simpa using h0) (by simpa using h1) (by simpa using h2) (by simpa using h3) h4
  by_cases h5 : s.f.opn = false
  · simp only [if_pos h5, if_neg h0, if_neg h1, if_neg h2, if_neg h3, if_neg h4]
    exact open_5 s.k s.l s.n s.a s.b s.c s.d s.e s.f v hv0 (by simpa using h0) (by simpa using h1) (by simpa using h2) (by simpa using h3) (by simpa using h4) h5
  simp only [if_neg h0, if_neg h1, if_neg h2, if_neg h3, if_neg h4, if_neg h5]
  exact open_full s.k s.l s.n s.a s.b s.c s.d s.e s.f v hv0 (by simpa using h0) (by simpa using h1) (by simpa using h2) (by simpa using h3) (by simpa using h4) (by simpa using h5)
def closeS (s : Ss) (p t : Int) : Ss := if s.a.opn = true ∧ p = 0 ∧ t = s.a.turn then { s with a := ⟨s.a.turn, false, 0, 0⟩ } else if s.b.opn = true ∧ p = 1 ∧ t = s.b.turn then { s with b := ⟨s.b.turn, false, 0, 0⟩ } else if s.c.opn = true ∧ p = 2 ∧ t = s.c.turn then { s with c := ⟨s.c.turn, false, 0, 0⟩ } else if s.d.opn = true ∧ p = 3 ∧ t = s.d.turn then { s with d := ⟨s.d.turn, false, 0, 0⟩ } else if s.e.opn = true ∧ p = 4 ∧ t = s.e.turn then { s with e := ⟨s.e.turn, false, 0, 0⟩ } else if s.f.opn = true ∧ p = 5 ∧ t = s.f.turn then { s with f := ⟨s.f.turn, false, 0, 0⟩ } else s
def closeE (s : Ss) (p t : Int) : Int := if s.a.opn = true ∧ p = 0 ∧ t = s.a.turn then 0 else if s.b.opn = true ∧ p = 1 ∧ t = s.b.turn then 0 else if s.c.opn = true ∧ p = 2 ∧ t = s.c.turn then 0 else if s.d.opn = true ∧ p = 3 ∧ t = s.d.turn then 0 else if s.e.opn = true ∧ p = 4 ∧ t = s.e.turn then 0 else if s.f.opn = true ∧ p = 5 ∧ t = s.f.turn then 0 else 11
def lookN (s : Ss) (p t : Int) : Int := if s.a.opn = true ∧ p = 0 ∧ t = s.a.turn then s.a.ver else if s.b.opn = true ∧ p = 1 ∧ t = s.b.turn then s.b.ver else if s.c.opn = true ∧ p = 2 ∧ t = s.c.turn then s.c.ver else if s.d.opn = true ∧ p = 3 ∧ t = s.d.turn then s.d.ver else if s.e.opn = true ∧ p = 4 ∧ t = s.e.turn then s.e.ver else if s.f.opn = true ∧ p = 5 ∧ t = s.f.turn then s.f.ver else 0
def lookB (s : Ss) (p t : Int) : Bool := if s.a.opn = true ∧ p = 0 ∧ t = s.a.turn then true else if s.b.opn = true ∧ p = 1 ∧ t = s.b.turn then true else if s.c.opn = true ∧ p = 2 ∧ t = s.c.turn then true else if s.d.opn = true ∧ p = 3 ∧ t = s.d.turn then true else if s.e.opn = true ∧ p = 4 ∧ t = s.e.turn then true else if s.f.opn = true ∧ p = 5 ∧ t = s.f.turn then true else false
def over (s : Ss) (q : Plc) (dn : Int) : Prop := (s.k ≤ dn ∧ q.ver ≤ IntKind.i64.wrap (dn - s.k)) ∨ q.till < s.n
instance (s : Ss) (q : Plc) (dn : Int) : Decidable (over s q dn) := by unfold over; infer_instance
def readN (s : Ss) (p t dn : Int) : Int := if s.a.opn = true ∧ p = 0 ∧ t = s.a.turn then (if over s s.a dn then 0 else s.a.ver) else if s.b.opn = true ∧ p = 1 ∧ t = s.b.turn then (if over s s.b dn then 0 else s.b.ver) else if s.c.opn = true ∧ p = 2 ∧ t = s.c.turn then (if over s s.c dn then 0 else s.c.ver) else if s.d.opn = true ∧ p = 3 ∧ t = s.d.turn then (if over s s.d dn then 0 else s.d.ver) else if s.e.opn = true ∧ p = 4 ∧ t = s.e.turn then (if over s s.e dn then 0 else s.e.ver) else if s.f.opn = true ∧ p = 5 ∧ t = s.f.turn then (if over s s.f dn then 0 else s.f.ver) else 0
def readE (s : Ss) (p t dn : Int) : Int := if s.a.opn = true ∧ p = 0 ∧ t = s.a.turn then (if over s s.a dn then 12 else 0) else if s.b.opn = true ∧ p = 1 ∧ t = s.b.turn then (if over s s.b dn then 12 else 0) else if s.c.opn = true ∧ p = 2 ∧ t = s.c.turn then (if over s s.c dn then 12 else 0) else if s.d.opn = true ∧ p = 3 ∧ t = s.d.turn then (if over s s.d dn then 12 else 0) else if s.e.opn = true ∧ p = 4 ∧ t = s.e.turn then (if over s s.e dn then 12 else 0) else if s.f.opn = true ∧ p = 5 ∧ t = s.f.turn then (if over s s.f dn then 12 else 0) else 11
theorem close_ok (s : Ss) (p t : Int) : ATriple Try.prog gv noRep 14 [.ref (0, 0) 0, hdl p t] [.box (cellsS s)] (i64V (closeE s p t)) [.box (cellsS (closeS s p t))] none := by
  simp only [closeS, closeE]
  by_cases h0 : s.a.opn = true ∧ p = 0 ∧ t = s.a.turn
  · simp only [if_pos h0]
    obtain ⟨ho, rfl, rfl⟩ := h0
    exact close_0 s.k s.l s.n s.a s.b s.c s.d s.e s.f ho
  by_cases h1 : s.b.opn = true ∧ p = 1 ∧ t = s.b.turn
  · simp only [if_pos h1, if_neg h0]
    obtain ⟨ho, rfl, rfl⟩ := h1
    exact close_1 s.k s.l s.n s.a s.b s.c s.d s.e s.f ho
  by_cases h2 : s.c.opn = true ∧ p = 2 ∧ t = s.c.turn
  · simp only [if_pos h2, if_neg h0, if_neg h1]
    obtain ⟨ho, rfl, rfl⟩ := h2
    exact close_2 s.k s.l s.n s.a s.b s.c s.d s.e s.f ho
  by_cases h3 : s.d.opn = true ∧ p = 3 ∧ t = s.d.turn
  · simp only [if_pos h3, if_neg h0, if_neg h1, if_neg h2]
    obtain ⟨ho, rfl, rfl⟩ := h3
    exact close_3 s.k s.l s.n s.a s.b s.c s.d s.e s.f ho
  by_cases h4 : s.e.opn = true ∧ p = 4 ∧ t = s.e.turn
  · simp only [if_pos h4, if_neg h0, if_neg h1, if_neg h2, if_neg h3]
    obtain ⟨ho, rfl, rfl⟩ := h4
    exact close_4 s.k s.l s.n s.a s.b s.c s.d s.e s.f ho
  by_cases h5 : s.f.opn = true ∧ p = 5 ∧ t = s.f.turn
  · simp only [if_pos h5, if_neg h0, if_neg h1, if_neg h2, if_neg h3, if_neg h4]
    obtain ⟨ho, rfl, rfl⟩ := h5
    exact close_5 s.k s.l s.n s.a s.b s.c s.d s.e s.f ho
  simp only [if_neg h0, if_neg h1, if_neg h2, if_neg h3, if_neg h4, if_neg h5]
  exact close_none s.k s.l s.n s.a s.b s.c s.d s.e s.f p t (fun x y => h0 ⟨x, y⟩) (fun x y => h1 ⟨x, y⟩) (fun x y => h2 ⟨x, y⟩) (fun x y => h3 ⟨x, y⟩) (fun x y => h4 ⟨x, y⟩) (fun x y => h5 ⟨x, y⟩)
theorem look_ok (s : Ss) (p t : Int) : ATriple Try.prog gv noRep 24 [.ref (0, 0) 0, hdl p t] [.box (cellsS s)] (.tup [i64V (lookN s p t), .bool (lookB s p t)]) [.box (cellsS s)] none := by
  simp only [lookN, lookB]
  by_cases h0 : s.a.opn = true ∧ p = 0 ∧ t = s.a.turn
  · simp only [if_pos h0]
    obtain ⟨ho, rfl, rfl⟩ := h0
    exact look_0 s.k s.l s.n s.a s.b s.c s.d s.e s.f ho
  by_cases h1 : s.b.opn = true ∧ p = 1 ∧ t = s.b.turn
  · simp only [if_pos h1, if_neg h0]
    obtain ⟨ho, rfl, rfl⟩ := h1
    exact look_1 s.k s.l s.n s.a s.b s.c s.d s.e s.f ho
  by_cases h2 : s.c.opn = true ∧ p = 2 ∧ t = s.c.turn
  · simp only [if_pos h2, if_neg h0, if_neg h1]
    obtain ⟨ho, rfl, rfl⟩ := h2
    exact look_2 s.k s.l s.n s.a s.b s.c s.d s.e s.f ho
  by_cases h3 : s.d.opn = true ∧ p = 3 ∧ t = s.d.turn
  · simp only [if_pos h3, if_neg h0, if_neg h1, if_neg h2]
    obtain ⟨ho, rfl, rfl⟩ := h3
    exact look_3 s.k s.l s.n s.a s.b s.c s.d s.e s.f ho
  by_cases h4 : s.e.opn = true ∧ p = 4 ∧ t = s.e.turn
  · simp only [if_pos h4, if_neg h0, if_neg h1, if_neg h2, if_neg h3]
    obtain ⟨ho, rfl, rfl⟩ := h4
    exact look_4 s.k s.l s.n s.a s.b s.c s.d s.e s.f ho
  by_cases h5 : s.f.opn = true ∧ p = 5 ∧ t = s.f.turn
  · simp only [if_pos h5, if_neg h0, if_neg h1, if_neg h2, if_neg h3, if_neg h4]
    obtain ⟨ho, rfl, rfl⟩ := h5
    exact look_5 s.k s.l s.n s.a s.b s.c s.d s.e s.f ho
  simp only [if_neg h0, if_neg h1, if_neg h2, if_neg h3, if_neg h4, if_neg h5]
  exact look_none s.k s.l s.n s.a s.b s.c s.d s.e s.f p t (fun x y => h0 ⟨x, y⟩) (fun x y => h1 ⟨x, y⟩) (fun x y => h2 ⟨x, y⟩) (fun x y => h3 ⟨x, y⟩) (fun x y => h4 ⟨x, y⟩) (fun x y => h5 ⟨x, y⟩)
theorem read_ok (s : Ss) (p t dn : Int) : ATriple Try.prog gv noRep 23 [.ref (0, 0) 0, hdl p t, i64V dn] [.box (cellsS s)] (.tup [i64V (readN s p t dn), i64V (readE s p t dn)]) [.box (cellsS s)] none := by
  simp only [readN, readE]
  by_cases h0 : s.a.opn = true ∧ p = 0 ∧ t = s.a.turn
  · simp only [if_pos h0]
    obtain ⟨ho, rfl, rfl⟩ := h0
    by_cases hv : over s s.a dn
    · simp only [if_pos hv]
      exact read_0x s.k s.l s.n s.a s.b s.c s.d s.e s.f dn ho hv
    · simp only [if_neg hv]
      exact read_0 s.k s.l s.n s.a s.b s.c s.d s.e s.f dn ho (by unfold over at hv; omega)
  by_cases h1 : s.b.opn = true ∧ p = 1 ∧ t = s.b.turn
  · simp only [if_pos h1, if_neg h0]
    obtain ⟨ho, rfl, rfl⟩ := h1
    by_cases hv : over s s.b dn
    · simp only [if_pos hv]
      exact read_1x s.k s.l s.n s.a s.b s.c s.d s.e s.f dn ho hv
    · simp only [if_neg hv]
      exact read_1 s.k s.l s.n s.a s.b s.c s.d s.e s.f dn ho (by unfold over at hv; omega)
  by_cases h2 : s.c.opn = true ∧ p = 2 ∧ t = s.c.turn
  · simp only [if_pos h2, if_neg h0, if_neg h1]
    obtain ⟨ho, rfl, rfl⟩ := h2
    by_cases hv : over s s.c dn
    · simp only [if_pos hv]
      exact read_2x s.k s.l s.n s.a s.b s.c s.d s.e s.f dn ho hv
    · simp only [if_neg hv]
      exact read_2 s.k s.l s.n s.a s.b s.c s.d s.e s.f dn ho (by unfold over at hv; omega)
  by_cases h3 : s.d.opn = true ∧ p = 3 ∧ t = s.d.turn
  · simp only [if_pos h3, if_neg h0, if_neg h1, if_neg h2]
    obtain ⟨ho, rfl, rfl⟩ := h3
    by_cases hv : over s s.d dn
    · simp only [if_pos hv]
      exact read_3x s.k s.l s.n s.a s.b s.c s.d s.e s.f dn ho hv
    · simp only [if_neg hv]
      exact read_3 s.k s.l s.n s.a s.b s.c s.d s.e s.f dn ho (by unfold over at hv; omega)
  by_cases h4 : s.e.opn = true ∧ p = 4 ∧ t = s.e.turn
  · simp only [if_pos h4, if_neg h0, if_neg h1, if_neg h2, if_neg h3]
    obtain ⟨ho, rfl, rfl⟩ := h4
    by_cases hv : over s s.e dn
    · simp only [if_pos hv]
      exact read_4x s.k s.l s.n s.a s.b s.c s.d s.e s.f dn ho hv
    · simp only [if_neg hv]
      exact read_4 s.k s.l s.n s.a s.b s.c s.d s.e s.f dn ho (by unfold over at hv; omega)
  by_cases h5 : s.f.opn = true ∧ p = 5 ∧ t = s.f.turn
  · simp only [if_pos h5, if_neg h0, if_neg h1, if_neg h2, if_neg h3, if_neg h4]
    obtain ⟨ho, rfl, rfl⟩ := h5
    by_cases hv : over s s.f dn
    · simp only [if_pos hv]
      exact read_5x s.k s.l s.n s.a s.b s.c s.d s.e s.f dn ho hv
    · simp only [if_neg hv]
      exact read_5 s.k s.l s.n s.a s.b s.c s.d s.e s.f dn ho (by unfold over at hv; omega)
  simp only [if_neg h0, if_neg h1, if_neg h2, if_neg h3, if_neg h4, if_neg h5]
  exact read_none s.k s.l s.n s.a s.b s.c s.d s.e s.f dn p t (fun x y => h0 ⟨x, y⟩) (fun x y => h1 ⟨x, y⟩) (fun x y => h2 ⟨x, y⟩) (fun x y => h3 ⟨x, y⟩) (fun x y => h4 ⟨x, y⟩) (fun x y => h5 ⟨x, y⟩)
end Go.Proofs.Ythgalldffgaddaa
