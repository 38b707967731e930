/- The machine 'Vm', part 27: things: cells, and what hangs on them, to any depth. -/
import Derived.Test.YtbppemcdphgknaaDoorVm26
set_option linter.unusedVariables false
set_option linter.unusedSimpArgs false
namespace Go.Vm
open Go

/-- A thing: its cells, in which (0, 0), (0, 1) .. name what hangs on it. -/
inductive DV where
  | mk (cs : List V) (inner : List (Ob DV))

instance : Deep DV where
  op x := match x with
    | .mk cs inner => (cs, inner)
  thing cs := some (.mk cs [])
  thingOp h := by cases h; rfl

section
variable {A : Type} {R R' : Rep A} {ρ : Rho} {M M' : Mem} {w w' : World}

def RLe (R R' : Rep A) : Prop := (∀ x, R.size x = R'.size x) ∧ ∀ {x M w b S}, R.rep x M w b S → R'.rep x M w b S

theorem ObRel.monoR (h : RLe R R') {n : Name} {B : List Nat} {ob : Ob A} (ho : ObRel R ρ M w n B ob) : ObRel R' ρ M w n B ob := by
  cases ob with
  | box cs => exact ho
  | row z es f => exact ho
  | abs x =>
    obtain ⟨b, h1, h2⟩ := ho
    exact ⟨b, by rw [← h.1]; exact h1, h.2 h2⟩
  | prow xs =>
    rcases ho with ⟨b, o, c, T, cs', bs, Ss, h1, h2⟩ | q
    · exact .inl ⟨b, o, c, T, cs', bs, Ss, h1, { h2 with rep := fun j x hx => h.2 (h2.rep j x hx) }⟩
    · exact .inr q
end

section
variable {A : Type} [Deep A] {R R' : Rep A} {ρ : Rho} {M M' : Mem} {w w' : World}

theorem OpenRel.frame {x : A} {b : Nat} {S : List Nat} (h : OpenRel R x M w b S) (hm : M.le M') (hM : ∀ k ∈ S, ∀ o, M' k o = M k o) (hh : ∀ k ∈ S, w'.heap[k]? = w.heap[k]?) : OpenRel R x M' w' b S := by
  obtain ⟨ρ, Ss, T, cs', o⟩ := h
  have hb : b ∈ S := by rw [o.all]; exact List.mem_cons_self
  have hS : ∀ i, i < (Deep.op x).2.length → ∀ k ∈ Ss i, k ∈ S := fun i hi k hk => by
    rw [o.all]; exact List.mem_cons_of_mem _ (List.mem_flatten.2 ⟨Ss i, List.mem_map.2 ⟨i, List.mem_range.2 hi, rfl⟩, hk⟩)
  exact ⟨ρ, Ss, T, cs', { o with
    heap := (hh b hb).trans o.heap
    rel := o.rel.mono (Rho.le_refl _) hm
    mem := fun i => (hM b hb i).trans (o.mem i)
    inner := fun i ob hi => by
      have hl := (List.getElem?_eq_some_iff.1 hi).1
      exact (o.inner i ob hi).of_heap rfl (Rho.le_refl _) hm (fun k hk => hM k (hS i hl k hk)) fun k hk => hh k (hS i hl k hk) }⟩

theorem OpenRel.monoR (h : RLe R R') {x : A} {b : Nat} {S : List Nat} (ho : OpenRel R x M w b S) : OpenRel R' x M w b S := by
  obtain ⟨ρ, Ss, T, cs', o⟩ := ho
  exact ⟨ρ, Ss, T, cs', { o with inner := fun i ob hi => (o.inner i ob hi).monoR h }⟩

variable (A) in
def iterRep : Nat → Rep A
  | 0 => ⟨fun _ _ _ _ _ => False, fun h => h.elim, fun x => (Deep.op x).1.length⟩
  | k + 1 => ⟨OpenRel (iterRep k), fun h => h.frame, fun x => (Deep.op x).1.length⟩

theorem iterRep_size (k : Nat) (x : A) : (iterRep A k).size x = (Deep.op x).1.length := by cases k <;> rfl

theorem iterRep_succ : ∀ k, RLe (iterRep A k) (iterRep A (k + 1))
  | 0 => ⟨fun _ => rfl, fun h => h.elim⟩
  | k + 1 => ⟨fun _ => rfl, fun h => OpenRel.monoR (iterRep_succ k) h⟩
theorem iterRep_le {k k' : Nat} (h : k ≤ k') : RLe (iterRep A k) (iterRep A k') := by
  induction h with
  | refl => exact ⟨fun _ => rfl, fun h => h⟩
  | step _ ih => exact ⟨fun x => by rw [iterRep_size, iterRep_size], fun h => (iterRep_succ _).2 (ih.2 h)⟩

variable (A) in
/-- What things stand for. -/
def dvRep : Rep A := ⟨fun x M w b S => ∃ k, (iterRep A k).rep x M w b S, fun ⟨k, h⟩ hm hM hh => ⟨k, (iterRep A k).frame h hm hM hh⟩, fun x => (Deep.op x).1.length⟩

theorem iterRep_dv (k : Nat) : RLe (iterRep A k) (dvRep A) := ⟨iterRep_size k, fun h => ⟨k, h⟩⟩

theorem bounded {P : Nat → Nat → Prop} (hm : ∀ i k k', k ≤ k' → P i k → P i k') : ∀ n, (∀ i, i < n → ∃ k, P i k) → ∃ K, ∀ i, i < n → P i K
  | 0, _ => ⟨0, fun i hi => by cases hi⟩
  | n + 1, h => by
    obtain ⟨K, hK⟩ := bounded hm n fun i hi => h i (by omega)
    obtain ⟨k, hk⟩ := h n (by omega)
    refine ⟨max K k, fun i hi => ?_⟩
    by_cases e : i = n
    · subst e; exact hm _ _ _ (by omega) hk
    · exact hm _ _ _ (by omega) (hK i (by omega))

theorem ObRel.iter {n : Name} {B : List Nat} {ob : Ob A} (h : ObRel (dvRep A) ρ M w n B ob) : ∃ k, ObRel (iterRep A k) ρ M w n B ob := by
  cases ob with
  | box cs => exact ⟨0, h⟩
  | row z es f => exact ⟨0, h⟩
  | abs x =>
    obtain ⟨b, h1, k, h2⟩ := h
    exact ⟨k, b, by rw [iterRep_size]; exact h1, h2⟩
  | prow xs =>
    rcases h with ⟨b, o, c, T, cs', bs, Ss, h1, h2⟩ | q
    · obtain ⟨K, hK⟩ := bounded (P := fun j k => ∀ x, xs[j]? = some x → (iterRep A k).rep x M w (bs j) (Ss j)) (fun j k k' hk h x hx => (iterRep_le hk).2 (h x hx)) xs.length fun j hj => by
        obtain ⟨k, hk⟩ := h2.rep j xs[j] (List.getElem?_eq_getElem hj)
        refine ⟨k, fun x hx => ?_⟩
        rw [List.getElem?_eq_getElem hj] at hx
        cases hx; exact hk
      exact ⟨K, .inl ⟨b, o, c, T, cs', bs, Ss, h1, { h2 with rep := fun j x hx => hK j (List.getElem?_eq_some_iff.1 hx).1 x hx }⟩⟩
    · exact ⟨0, .inr q⟩

theorem dvOk : RepOk (dvRep A) where
  size _ := rfl
  opens := by
    rintro x M w b S ⟨k, h⟩
    cases k with
    | zero => exact h.elim
    | succ k => exact OpenRel.monoR (iterRep_dv k) h
  shuts := by
    rintro x M w b S ⟨ρ, Ss, T, cs', o⟩
    obtain ⟨K, hK⟩ := bounded (P := fun i k => ∀ ob, (Deep.op x).2[i]? = some ob → ObRel (iterRep A k) ρ M w (0, i) (Ss i) ob) (fun i k k' hk h ob hob => (h ob hob).monoR (iterRep_le hk)) (Deep.op x).2.length fun i hi => by
      obtain ⟨k, hk⟩ := (o.inner i _ (List.getElem?_eq_getElem hi)).iter
      refine ⟨k, fun ob hob => ?_⟩
      rw [List.getElem?_eq_getElem hi] at hob
      cases hob; exact hk
    exact ⟨K + 1, ρ, Ss, T, cs', { o with inner := fun i ob hi => hK i (List.getElem?_eq_some_iff.1 hi).1 ob hi }⟩
end
end Go.Vm
