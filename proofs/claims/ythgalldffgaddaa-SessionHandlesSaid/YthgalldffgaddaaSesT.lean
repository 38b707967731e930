/- Chapter 24: what its functions come to (SesT). -/
import Derived.Test.YthgalldffgaddaaSesR
import Derived.Test.YthgalldffgaddaaSesJ
set_option linter.unusedVariables false
set_option linter.unusedSimpArgs false
namespace Go.Proofs.Ythgalldffgaddaa
open Go Go.Vm
set_option maxRecDepth 100000
set_option maxHeartbeats 4000000
set_option linter.unusedSimpArgs false
set_option linter.unusedVariables false
abbrev InP (p : Int) : Prop := p = 0 ∨ p = 1 ∨ p = 2 ∨ p = 3 ∨ p = 4 ∨ p = 5
def at_ (s : Ss) (p : Int) : Plc := if p = 0 then s.a else if p = 1 then s.b else if p = 2 then s.c else if p = 3 then s.d else if p = 4 then s.e else s.f
def put_ (s : Ss) (p : Int) (x : Plc) : Ss := if p = 0 then { s with a := x } else if p = 1 then { s with b := x } else if p = 2 then { s with c := x } else if p = 3 then { s with d := x } else if p = 4 then { s with e := x } else { s with f := x }
def cnt (s : Ss) : Int := lenTo s.a s.b s.c s.d s.e s.f 6
theorem cnt_eq (s : Ss) : cnt s = b2i s.a.opn + b2i s.b.opn + b2i s.c.opn + b2i s.d.opn + b2i s.e.opn + b2i s.f.opn := by simp [cnt, lenTo]
theorem at_put (s : Ss) {p q : Int} (x : Plc) (hp : InP p) (hq : InP q) : at_ (put_ s q x) p = if p = q then x else at_ s p := by
  rcases hp with rfl | rfl | rfl | rfl | rfl | rfl <;> rcases hq with rfl | rfl | rfl | rfl | rfl | rfl <;> rfl
theorem cnt_put (s : Ss) {p : Int} (x : Plc) (hp : InP p) : cnt (put_ s p x) = cnt s - b2i (at_ s p).opn + b2i x.opn := by
  rcases hp with rfl | rfl | rfl | rfl | rfl | rfl <;> simp only [cnt_eq] <;> simp [put_, at_] <;> omega
theorem b2i_true : b2i true = 1 := rfl
theorem b2i_false : b2i false = 0 := rfl
theorem open_full_ {s : Ss} {v : Int} (hv : 0 ≤ v) (h : cnt s = 6) : openE s v = 10 ∧ openS s v = s := by
  rw [cnt_eq] at h
  have ha := b2i_in s.a.opn
  have hb := b2i_in s.b.opn
  have hc := b2i_in s.c.opn
  have hd := b2i_in s.d.opn
  have he := b2i_in s.e.opn
  have hf := b2i_in s.f.opn
  have ea : s.a.opn = true := by
    cases hh : s.a.opn
    · rw [hh, b2i_false] at h; omega
    · rfl
  have eb : s.b.opn = true := by
    cases hh : s.b.opn
    · rw [hh, b2i_false] at h; omega
    · rfl
  have ec : s.c.opn = true := by
    cases hh : s.c.opn
    · rw [hh, b2i_false] at h; omega
    · rfl
  have ed : s.d.opn = true := by
    cases hh : s.d.opn
    · rw [hh, b2i_false] at h; omega
    · rfl
  have ee : s.e.opn = true := by
    cases hh : s.e.opn
    · rw [hh, b2i_false] at h; omega
    · rfl
  have ef : s.f.opn = true := by
    cases hh : s.f.opn
    · rw [hh, b2i_false] at h; omega
    · rfl
  have hv0 : ¬ v < 0 := by omega
  simp [openE, openS, hv0, ea, eb, ec, ed, ee, ef]
theorem open_room {s : Ss} {v : Int} (hv : 0 ≤ v) (h : cnt s < 6) : ∃ q, InP q ∧ (at_ s q).opn = false ∧ openE s v = 0 ∧ openP s v = q ∧ openT s v = IntKind.i64.wrap ((at_ s q).turn + 1) ∧ openS s v = put_ s q (opened s (at_ s q) v) := by
  rw [cnt_eq] at h
  have hv0 : ¬ v < 0 := by omega
  unfold openE openP openT openS
  simp only [if_neg hv0]
  by_cases h0 : s.a.opn = false
  · simp only [if_pos h0]
    refine ⟨0, by decide, h0, ?_⟩
    simp [put_, at_]
  by_cases h1 : s.b.opn = false
  · simp only [if_pos h1, if_neg h0]
    refine ⟨1, by decide, h1, ?_⟩
    simp [put_, at_]
  by_cases h2 : s.c.opn = false
  · simp only [if_pos h2, if_neg h0, if_neg h1]
    refine ⟨2, by decide, h2, ?_⟩
    simp [put_, at_]
  by_cases h3 : s.d.opn = false
  · simp only [if_pos h3, if_neg h0, if_neg h1, if_neg h2]
    refine ⟨3, by decide, h3, ?_⟩
    simp [put_, at_]
  by_cases h4 : s.e.opn = false
  · simp only [if_pos h4, if_neg h0, if_neg h1, if_neg h2, if_neg h3]
    refine ⟨4, by decide, h4, ?_⟩
    simp [put_, at_]
  by_cases h5 : s.f.opn = false
  · simp only [if_pos h5, if_neg h0, if_neg h1, if_neg h2, if_neg h3, if_neg h4]
    refine ⟨5, by decide, h5, ?_⟩
    simp [put_, at_]
  simp only [Bool.not_eq_false] at h0 h1 h2 h3 h4 h5
  rw [h0, h1, h2, h3, h4, h5] at h
  exact absurd h (by decide)
theorem close_at {s : Ss} {p t : Int} (hp : InP p) (h1 : (at_ s p).opn = true) (h2 : (at_ s p).turn = t) : closeE s p t = 0 ∧ closeS s p t = put_ s p ⟨t, false, 0, 0⟩ ∧ lookB s p t = true := by
  subst h2
  rcases hp with rfl | rfl | rfl | rfl | rfl | rfl <;> simp only [at_] at h1 ⊢ <;> simp at h1 ⊢ <;> simp [closeE, closeS, lookB, put_, h1]
theorem gone_at {s : Ss} {p t : Int} (hp : InP p) (h : (at_ s p).opn = true → t ≠ (at_ s p).turn) : closeE s p t = 11 ∧ closeS s p t = s ∧ lookB s p t = false ∧ readE s p t 0 = 11 := by
  rcases hp with rfl | rfl | rfl | rfl | rfl | rfl <;> simp only [at_] at h <;> simp at h <;> simp [closeE, closeS, lookB, readE] <;> exact ⟨h, fun a b => absurd b (h a), h, fun a b => absurd b (h a)⟩
structure Inv (s : Ss) (O G : List (Int × Int)) (n : Int) : Prop where
  o : ∀ h ∈ O, InP h.1 ∧ (at_ s h.1).opn = true ∧ (at_ s h.1).turn = h.2
  d : O.Pairwise (fun a b => a.1 ≠ b.1)
  g : ∀ h ∈ G, InP h.1 ∧ h.2 ≤ (at_ s h.1).turn ∧ ((at_ s h.1).opn = true → h.2 < (at_ s h.1).turn)
  t : ∀ p, InP p → 0 ≤ (at_ s p).turn ∧ (at_ s p).turn ≤ n
  c : cnt s = O.length
theorem Inv.full {s : Ss} {O G : List (Int × Int)} {n v : Int} (h : Inv s O G n) (hv : 0 ≤ v) (hO : ¬ (O.length : Int) < 6) : openE s v = 10 ∧ openS s v = s := by
  have h6 : cnt s ≤ 6 := (lenTo_in s.a s.b s.c s.d s.e s.f 6).2
  refine open_full_ hv ?_
  have := h.c
  omega
theorem Inv.opens {s : Ss} {O G : List (Int × Int)} {n v : Int} (h : Inv s O G n) (hv : 0 ≤ v) (hn : n ≤ 1000) (hO : (O.length : Int) < 6) :
    openE s v = 0 ∧ (∀ x ∈ O, x.1 ≠ openP s v) ∧ (∀ x ∈ G, ¬ (x.1 = openP s v ∧ x.2 = openT s v)) ∧ Inv (openS s v) (O ++ [(openP s v, openT s v)]) G (n + 1) := by
  obtain ⟨q, hq, h1, h2, h3, h4, h5⟩ := open_room (s := s) (v := v) hv (by rw [h.c]; exact hO)
  have hq0 := h.t q hq
  rw [wrapI64 (by omega) (by omega)] at h4
  have hne : ∀ x ∈ O, x.1 ≠ q := fun x hx e => by
    have := (h.o x hx).2.1
    rw [e, h1] at this; cases this
  rw [h3, h4, h5]
  have ho : opened s (at_ s q) v = ⟨(at_ s q).turn + 1, true, v, IntKind.i64.wrap (s.n + s.l)⟩ := by unfold opened; rw [wrapI64 (by omega) (by omega)]
  rw [ho]
  refine ⟨h2, hne, fun x hx e => ?_, ?_⟩
  · have := (h.g x hx).2.1
    rw [e.1, e.2] at this; omega
  · refine ⟨fun x hx => ?_, ?_, fun x hx => ?_, fun p hp => ?_, ?_⟩
    · rcases List.mem_append.1 hx with hx | hx
      · obtain ⟨g1, g2, g3⟩ := h.o x hx
        rw [at_put _ _ g1 hq, if_neg (hne x hx)]
        exact ⟨g1, g2, g3⟩
      · obtain rfl : x = (q, (at_ s q).turn + 1) := by simpa using hx
        simp only
        rw [at_put _ _ hq hq, if_pos rfl]
        exact ⟨hq, rfl, rfl⟩
    · refine List.pairwise_append.2 ⟨h.d, by simp, fun a ha b hb => ?_⟩
      obtain rfl : b = (q, (at_ s q).turn + 1) := by simpa using hb
      exact hne a ha
    · obtain ⟨g1, g2, g3⟩ := h.g x hx
      rw [at_put _ _ g1 hq]
      by_cases e : x.1 = q
      · rw [if_pos e]
        rw [e] at g2
        exact ⟨g1, by show x.2 ≤ (at_ s q).turn + 1; omega, fun _ => by show x.2 < (at_ s q).turn + 1; omega⟩
      · rw [if_neg e]; exact ⟨g1, g2, g3⟩
    · rw [at_put _ _ hp hq]
      by_cases e : p = q
      · rw [if_pos e]; exact ⟨by show 0 ≤ (at_ s q).turn + 1; omega, by show (at_ s q).turn + 1 ≤ n + 1; omega⟩
      · rw [if_neg e]; have := h.t p hp; exact ⟨by omega, by omega⟩
    · rw [cnt_put _ _ hq, h.c, h1, b2i_false]; simp [b2i_true]
theorem Inv.closes {s : Ss} {O G : List (Int × Int)} {n : Int} (h : Inv s O G n) {k : Nat} {x : Int × Int} (hk : O[k]? = some x) :
    closeE s x.1 x.2 = 0 ∧ closeE (closeS s x.1 x.2) x.1 x.2 = 11 ∧ closeS (closeS s x.1 x.2) x.1 x.2 = closeS s x.1 x.2 ∧ Inv (closeS s x.1 x.2) (O.take k ++ O.drop (k + 1)) (G ++ [x]) n := by
  obtain ⟨hq, h1, h2⟩ := h.o x (List.mem_of_getElem? hk)
  have hlt : k < O.length := (List.getElem?_eq_some_iff.1 hk).1
  obtain ⟨c1, c2, _⟩ := close_at hq h1 h2
  rw [c2]
  have a1 : at_ (put_ s x.1 ⟨x.2, false, 0, 0⟩) x.1 = ⟨x.2, false, 0, 0⟩ := by rw [at_put _ _ hq hq, if_pos rfl]
  obtain ⟨d1, d2, _⟩ := gone_at (s := put_ s x.1 ⟨x.2, false, 0, 0⟩) (t := x.2) hq (fun e => by rw [a1] at e; cases e)
  have hO : O = O.take k ++ x :: O.drop (k + 1) := by
    have := List.take_append_drop k O
    rw [List.drop_eq_getElem_cons hlt] at this
    rw [List.getElem?_eq_getElem hlt] at hk
    cases hk; exact this.symm
  have hd := h.d
  rw [hO] at hd
  have hne : ∀ y ∈ O.take k ++ O.drop (k + 1), y.1 ≠ x.1 := fun y hy => by
    obtain ⟨p1, p2, p3⟩ := List.pairwise_append.1 hd
    rcases List.mem_append.1 hy with hy | hy
    · exact p3 y hy x (by simp)
    · exact fun e => (List.pairwise_cons.1 p2).1 y hy e.symm
  have hsub : ∀ y ∈ O.take k ++ O.drop (k + 1), y ∈ O := fun y hy => by
    rcases List.mem_append.1 hy with hy | hy
    · exact List.mem_of_mem_take hy
    · exact List.mem_of_mem_drop hy
  refine ⟨c1, d1, d2, fun y hy => ?_, ?_, fun y hy => ?_, fun p hp => ?_, ?_⟩
  · obtain ⟨g1, g2, g3⟩ := h.o y (hsub y hy)
    rw [at_put _ _ g1 hq, if_neg (hne y hy)]
    exact ⟨g1, g2, g3⟩
  · obtain ⟨p1, p2, p3⟩ := List.pairwise_append.1 hd
    exact List.pairwise_append.2 ⟨p1, (List.pairwise_cons.1 p2).2, fun a ha b hb => p3 a ha b (List.mem_cons_of_mem _ hb)⟩
  · rcases List.mem_append.1 hy with hy | hy
    · obtain ⟨g1, g2, g3⟩ := h.g y hy
      rw [at_put _ _ g1 hq]
      by_cases e : y.1 = x.1
      · rw [if_pos e]
        rw [e, h2] at g2
        exact ⟨g1, g2, fun e => by cases e⟩
      · rw [if_neg e]; exact ⟨g1, g2, g3⟩
    · obtain rfl : y = x := by simpa using hy
      rw [a1]
      exact ⟨hq, Int.le_refl _, fun e => by cases e⟩
  · rw [at_put _ _ hp hq]
    by_cases e : p = x.1
    · rw [if_pos e]
      have := h.t x.1 hq
      rw [h2] at this; exact this
    · rw [if_neg e]; exact h.t p hp
  · rw [cnt_put _ _ hq, h.c, h1]
    have hl : (O.take k ++ O.drop (k + 1)).length + 1 = O.length := by
      rw [List.length_append, List.length_take, List.length_drop]; omega
    simp only [b2i_true, b2i_false]
    omega
theorem Inv.gone {s : Ss} {O G : List (Int × Int)} {n : Int} (h : Inv s O G n) {x : Int × Int} (hx : x ∈ G) : lookB s x.1 x.2 = false ∧ readE s x.1 x.2 0 = 11 := by
  obtain ⟨g1, g2, g3⟩ := h.g x hx
  obtain ⟨_, _, h3, h4⟩ := gone_at (s := s) (t := x.2) g1 (fun e => by have := g3 e; omega)
  exact ⟨h3, h4⟩
theorem Inv.there {s : Ss} {O G : List (Int × Int)} {n : Int} (h : Inv s O G n) {x : Int × Int} (hx : x ∈ O) : lookB s x.1 x.2 = true := by
  obtain ⟨g1, g2, g3⟩ := h.o x hx
  exact (close_at g1 g2 g3).2.2
end Go.Proofs.Ythgalldffgaddaa
