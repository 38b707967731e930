/- The machine 'Vm', part 31: nil as a slice of nothing by value, at a loop's head. -/
import Derived.Test.YtbppemcdphgknaaDoorVm30
set_option linter.unusedVariables false
set_option linter.unusedSimpArgs false
namespace Go.Vm
open Go
variable {A : Type} {E : Env} {st : St A} {a : Act} {w : World}
def St.nilT (st : St A) (t sz : Nat) : St A := match lget st.tmps t with
  | some .nils => { st with tmps := lset st.tmps t (.lst sz []) }
  | _ => st
theorem Sat.nilT [Deep A] {C : Cx A} (h : Sat C.R E st a w) (t sz : Nat) : Sat C.R E (st.nilT t sz) a w := by
  unfold St.nilT
  split
  · rename_i h1
    rw [lget_eq] at h1
    obtain ⟨ρ, M, S, hr⟩ := h
    obtain ⟨v', hv', hv⟩ := hr.tmps.get h1
    refine ⟨ρ, M, S, { hr with tmps := ?_ }⟩
    have ht := hr.tmps
    show VsRel ρ M (lset st.tmps t (.lst sz [])) _
    rw [lset_eq]
    refine ⟨by simpa using ht.1, fun i v u hi hu => ?_⟩
    rw [List.getElem?_set] at hi
    split at hi
    · rename_i e
      subst e
      split at hi
      · cases hi
        rw [hv'] at hu
        cases hu
        cases hv
        exact .lst0
      · cases hi
    · exact ht.2 i v u hi hu
  · exact h
theorem VLoop.nilT [Deep A] {C : Cx A} {b : Code} {K : Exit → St A → Prop} (t sz : Nat) (h : forceSt (st.nilT t sz) fun st => VLoop C E b st K) : VLoop C E b st K := by
  rw [forceSt_eq] at h
  unfold VLoop at h ⊢
  exact fun a w hs => h a w (hs.nilT t sz)
end Go.Vm
