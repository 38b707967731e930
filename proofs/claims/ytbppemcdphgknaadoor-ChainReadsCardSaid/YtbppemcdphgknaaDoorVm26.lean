/- The machine 'Vm', part 26: nil as a row of nothing, at a loop's head. -/
import Derived.Test.YtbppemcdphgknaaDoorVm25
set_option linter.unusedVariables false
set_option linter.unusedSimpArgs false
namespace Go.Vm
open Go
variable {A : Type} {E : Env} {st : St A} {a : Act} {w : World}
/-- The temp t, which is nil, is from now on a row of nothing in the slot s. -/
def St.adopt (st : St A) (t s sz : Nat) : St A := match lget st.tmps t, lget st.objs s with
  | some .nils, some p => { st with tmps := lset st.tmps t (.rsl (s + 1, p.1 + 1) sz 0 0), objs := lset st.objs s (p.1 + 1, some (.row sz [] false)) }
  | _, _ => st
theorem Sat.adopt [Deep A] {C : Cx A} (h : Sat C.R E st a w) (t s sz : Nat) : Sat C.R E (st.adopt t s sz) a w := by
  unfold St.adopt
  split
  · rename_i p h1 h2
    rw [lget_eq] at h1 h2
    obtain ⟨ρ, M, S, hr⟩ := h
    obtain ⟨v', hv', hv⟩ := hr.tmps.get h1
    have hk := hr.new (s := s) (g := p.1) (o₀ := p.2) (by rw [h2]) (x := (0, 0, 0)) (T := []) (M' := M) (w' := w) (ob := .row sz [] false) (.inr ⟨rfl, rfl, 0, 0, by simp⟩) (fun _ hk => by cases hk) (Mem.le_refl _) (fun _ _ _ hv => .inl hv)
      (fun _ _ _ _ _ _ _ => rfl) hr.mem (fun _ _ _ _ _ _ => rfl) (fun _ _ _ => rfl) (Nat.le_refl _) rfl rfl rfl
    refine ⟨_, M, _, { hk with defers := hk.defers, tmps := ?_ }⟩
    have ht := hk.tmps
    rw [St.tmps_setOb] at ht
    show VsRel _ M (lset st.tmps t (.rsl (s + 1, p.1 + 1) sz 0 0)) _
    rw [lset_eq]
    refine ⟨by simpa using ht.1, fun i v u hi hu => ?_⟩
    rw [List.getElem?_set] at hi
    split at hi
    · rename_i e
      subst e
      split at hi
      · cases hi
        rw [hv'] at hu
        cases hu
        cases hv
        exact .rsl0
      · cases hi
    · exact ht.2 i v u hi hu
  · exact h
theorem VLoop.adopt [Deep A] {C : Cx A} {b : Code} {K : Exit → St A → Prop} (t s sz : Nat) (h : forceSt (st.adopt t s sz) fun st => VLoop C E b st K) : VLoop C E b st K := by
  rw [forceSt_eq] at h
  unfold VLoop at h ⊢
  exact fun a w hs => h a w (hs.adopt t s sz)
end Go.Vm
