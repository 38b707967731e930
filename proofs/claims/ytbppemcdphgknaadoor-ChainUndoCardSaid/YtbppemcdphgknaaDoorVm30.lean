/- The machine 'Vm', part 30: a row of another slot's, at a loop's head. -/
import Derived.Test.YtbppemcdphgknaaDoorVm29
set_option linter.unusedVariables false
set_option linter.unusedSimpArgs false
namespace Go.Vm
open Go
variable {A : Type} {E : Env} {st : St A} {a : Act} {w : World}
/-- The row to which the temp t leads bears from now on the slot s's name. -/
def St.move (st : St A) (t s : Nat) : St A := match lget st.tmps t with
  | some (.rsl n sz i len) => match st.get n with
    | some (.row sz' es fz) => match lget st.objs s with
      | some p => { (st.setOb n none).setOb (s + 1, p.1 + 1) (some (.row sz' es fz)) with tmps := lset st.tmps t (.rsl (s + 1, p.1 + 1) sz i len) }
      | none => st
    | _ => st
  | _ => st
theorem Sat.move [Deep A] {C : Cx A} (h : Sat C.R E st a w) (t s : Nat) : Sat C.R E (st.move t s) a w := by
  unfold St.move
  split
  · rename_i n sz i len h1
    split
    · rename_i sz' es fz h2
      split
      · rename_i p h3
        rw [lget_eq] at h1 h3
        obtain ⟨ρ, M, S, hr⟩ := h
        have hob := hr.objs n _ h2
        obtain ⟨x, hx⟩ : ∃ x, ρ n = some x := by
          rcases hob with ⟨b, o, c, T, cs', _, e2, _⟩ | ⟨_, _, b, o, e2⟩
          · exact ⟨_, e2⟩
          · exact ⟨_, e2⟩
        have hk := hr.kill h2
        obtain ⟨o₁, hs⟩ := St.objs_kill (s := s) (g := p.1) (o₀ := p.2) h2 h3
        have hle := Rho.le_new hk hs x
        have hob' : ObRel C.R (fun k => if k = (s + 1, p.1 + 1) then some x else ρ k) M w (s + 1, p.1 + 1) (S n) (.row sz' es fz) := by
          rcases hob with ⟨b, o, c, T, cs', e1, e2, e3, e4, e5, e6, e7, e8⟩ | ⟨e1, e2, b, o, e3⟩
          · refine .inl ⟨b, o, c, T, cs', e1, by simp [← e2, hx], e3, e4, e5, e6, fun i k e v hi hk => ?_, e8⟩
            obtain ⟨v', q1, q2⟩ := e7 i k e v hi hk
            exact ⟨v', q1, q2.mono hle (Mem.le_refl _)⟩
          · exact .inr ⟨e1, e2, b, o, by simp [← e3, hx]⟩
        have hn := hk.new (M' := M) (w' := w) (T := S n) (x := x) hs hob' (fun b hb => ⟨hr.blt n _ h2 b hb, hr.own n _ h2 b hb, fun n' ob' hn' _ => by
            rcases St.get_setOb_live h2 _ hn' with ⟨_, h5⟩ | h5
            · cases h5
            · exact hr.disj n n' _ _ h2 h5.2 (Ne.symm h5.1) b hb⟩) (Mem.le_refl _) (fun _ _ _ hv => .inl hv)
          (fun _ _ _ _ _ _ _ => rfl) hk.mem (fun _ _ _ _ _ _ => rfl) (fun _ _ _ => rfl) (Nat.le_refl _) rfl rfl rfl
        obtain ⟨v', hv', hv⟩ := hr.tmps.get h1
        refine ⟨_, M, _, { hn with defers := hn.defers, tmps := ?_ }⟩
        have ht := hn.tmps
        rw [St.tmps_setOb, St.tmps_setOb] at ht
        show VsRel _ M (lset st.tmps t (.rsl (s + 1, p.1 + 1) sz i len)) _
        rw [lset_eq]
        refine ⟨by simpa using ht.1, fun j v u hi hu => ?_⟩
        rw [List.getElem?_set] at hi
        split at hi
        · rename_i e
          subst e
          split at hi
          · cases hi
            rw [hv'] at hu
            cases hu
            cases hv with
            | rsl q1 q2 q3 => exact .rsl (by simp [← hx, q1]) q2 q3
            | rsl0 => exact .rsl0
          · cases hi
        · exact ht.2 j v u hi hu
      · exact h
    · exact h
  · exact h
theorem VLoop.move [Deep A] {C : Cx A} {b : Code} {K : Exit → St A → Prop} (t s : Nat) (h : forceSt (st.move t s) fun st => VLoop C E b st K) : VLoop C E b st K := by
  rw [forceSt_eq] at h
  unfold VLoop at h ⊢
  exact fun a w hs => h a w (hs.move t s)
end Go.Vm
