/- The machine 'Vm', part 25: nil and lists of nothing. -/
import Derived.Test.YtbppemcdphgknaaDoorVm24
set_option linter.unusedVariables false
set_option linter.unusedSimpArgs false
namespace Go.Vm
open Go
theorem PTriple.weak {P : Program} {G : Nat → V} {f : FuncId} {args args' : List V} {r r' : V} (h : PTriple P G f args r)
    (ha : ∀ M l, VsRel (fun _ => none) M args' l → VsRel (fun _ => none) M args l) (hr : ∀ M v, VRel (fun _ => none) M r v → VRel (fun _ => none) M r' v) : PTriple P G f args' r' := by
  rcases h with h | h
  · refine .inl ⟨h.1, fun w M args' hG hM hv => Calls.mono (h.2 w M args' hG hM (ha _ _ hv)) ?_⟩
    rintro e w' ⟨x, M', h1, h2, h3⟩
    exact ⟨x, M', h1, h2, hr _ _ h3⟩
  · refine .inr fun w M args' hM hv => ?_
    obtain ⟨v, h1, h2⟩ := h w M args' hM (ha _ _ hv)
    exact ⟨v, h1, hr _ _ h2⟩
theorem VRel.lst_of_nils {ρ : Rho} {M : Mem} {sz : Nat} {v : Value} (h : VRel ρ M .nils v) : VRel ρ M (.lst sz []) v := by
  cases h; exact .lst0
/-- What gives nil gives a list of nothing. -/
theorem PTriple.to_lst {P : Program} {G : Nat → V} {f : FuncId} {args : List V} {sz : Nat} (h : PTriple P G f args .nils) : PTriple P G f args (.lst sz []) :=
  h.weak (fun _ _ h => h) fun _ _ h => h.lst_of_nils
/-- Are arguments alike, but for nil in place of a list of nothing? -/
inductive Nilled : List V → List V → Prop
  | nil : Nilled [] []
  | same {v : V} {l l' : List V} : Nilled l l' → Nilled (v :: l) (v :: l')
  | nils {sz : Nat} {l l' : List V} : Nilled l l' → Nilled (.nils :: l) (.lst sz [] :: l')
theorem Nilled.rel {l l' : List V} (h : Nilled l l') {ρ : Rho} {M : Mem} : ∀ {vs : List Value}, VsRel ρ M l vs → VsRel ρ M l' vs := by
  induction h with
  | nil => exact fun h => h
  | same _ ih => intro vs h; obtain ⟨v', r, rfl, h1, h2⟩ := h.uncons; exact .cons h1 (ih h2)
  | nils _ ih => intro vs h; obtain ⟨v', r, rfl, h1, h2⟩ := h.uncons; exact .cons h1.lst_of_nils (ih h2)
theorem PTriple.nilled {P : Program} {G : Nat → V} {f : FuncId} {args args' : List V} {r : V} (h : PTriple P G f args r) (ha : Nilled args' args) : PTriple P G f args' r :=
  h.weak (fun _ _ h => ha.rel h) fun _ _ h => h
def V.flat : V → Bool
  | .int .. | .bool _ => true
  | _ => false
def pureB (es : List (List V)) : Bool := es.all fun e => e.all V.flat
theorem pure_of {es : List (List V)} (h : pureB es = true) : PureEs es := fun e he v hv => by
  have := List.all_eq_true.1 (List.all_eq_true.1 h e he) v hv
  cases v <;> first | exact .int _ _ | exact .bool _ | cases this
def allOneB (es : List (List V)) (sz : Nat) : Bool := es.all fun e => e.length == sz && e.all V.one
theorem allOne_of {es : List (List V)} {sz : Nat} (h : allOneB es sz = true) : allOne es sz := fun e he => by
  have := List.all_eq_true.1 h e he
  simpa using this
end Go.Vm
