/- Chapter 24: what its functions come to (SesC). -/
import Derived.Test.YthgalldffgaddaaSesB
set_option linter.unusedVariables false
set_option linter.unusedSimpArgs false
namespace Go.Proofs.Ythgalldffgaddaa
open Go Go.Vm
set_option maxRecDepth 100000
set_option maxHeartbeats 4000000
set_option linter.unusedSimpArgs false
theorem small_facts : True := trivial
theorem wakes_ok  : PTriple Try.prog gv 8 [] (.bool true) := by
  refine PTriple.of_body (C := cx) Try.func8 rfl (by kernel_rfl) mixed fun E hE => ?_
  repeat' (conv => whnf); first
   | (refine bcase_of (fun hr => ?_) (fun hr => ?_) <;> try (exfalso; simp at hr; done))
   | (refine And.intro (by first | exact Nat.le_of_ble_eq_true rfl | decide) ?_)
   | (refine And.intro (by show indep _ _ = true; kernel_rfl) ?_)
   | (refine Exists.intro _ (And.intro (by first | exact rfl) ?_))
   | refine ⟨_, _, _, ATriple.call (new_ok 2 3 (by decide) (by decide)) (by rfl) (by rfl) (by rfl), ?_⟩
   | refine ⟨_, _, _, ATriple.call (open_0 2 3 0 p0 p0 p0 p0 p0 p0 5 (by decide) rfl) (by rfl) (by rfl) (by rfl), ?_⟩
   | refine ⟨_, _, _, ATriple.call (read_0 2 3 0 ⟨1, true, 5, 3⟩ p0 p0 p0 p0 p0 6 rfl (by decide)) (by rfl) (by rfl) (by rfl), ?_⟩
   | refine ⟨_, _, _, ATriple.call (read_0x 2 3 0 ⟨1, true, 5, 3⟩ p0 p0 p0 p0 p0 7 rfl (by decide)) (by rfl) (by rfl) (by rfl), ?_⟩
   | refine ⟨_, _, _, ATriple.call (tick_ok 2 3 0 ⟨1, true, 5, 3⟩ p0 p0 p0 p0 p0 3 (by decide)) (by rfl) (by rfl) (by rfl), ?_⟩
   | refine ⟨_, _, _, ATriple.call (read_0 2 3 3 ⟨1, true, 5, 3⟩ p0 p0 p0 p0 p0 6 rfl (by decide)) (by rfl) (by rfl) (by rfl), ?_⟩
   | refine ⟨_, _, _, ATriple.call (tick_ok 2 3 3 ⟨1, true, 5, 3⟩ p0 p0 p0 p0 p0 1 (by decide)) (by rfl) (by rfl) (by rfl), ?_⟩
   | refine ⟨_, _, _, ATriple.call (read_0x 2 3 4 ⟨1, true, 5, 3⟩ p0 p0 p0 p0 p0 6 rfl (by decide)) (by rfl) (by rfl) (by rfl), ?_⟩
   | refine ⟨_, _, _, ATriple.call (look_0 2 3 4 ⟨1, true, 5, 3⟩ p0 p0 p0 p0 p0 rfl) (by rfl) (by rfl) (by rfl), ?_⟩
   | refine ⟨_, _, _, ATriple.call (close_0 2 3 4 ⟨1, true, 5, 3⟩ p0 p0 p0 p0 p0 rfl) (by rfl) (by rfl) (by rfl), ?_⟩
   | refine ⟨_, _, _, ATriple.call (read_closed 2 3 4 ⟨1, false, 0, 0⟩ p0 p0 p0 p0 p0 6 0 1 rfl rfl rfl rfl rfl rfl) (by rfl) (by rfl) (by rfl), ?_⟩
   | refine ⟨_, _, _, ATriple.call (open_0 2 3 4 ⟨1, false, 0, 0⟩ p0 p0 p0 p0 p0 0 (by decide) rfl) (by rfl) (by rfl) (by rfl), ?_⟩
   | refine ⟨_, _, _, ATriple.call (now_ok 2 3 4 ⟨2, true, 0, 7⟩ p0 p0 p0 p0 p0) (by rfl) (by rfl) (by rfl), ?_⟩
   | refine ⟨_, _, _, ATriple.call (len_1 2 3 4 ⟨2, true, 0, 7⟩ p0 p0 p0 p0 p0 rfl rfl rfl rfl rfl rfl) (by rfl) (by rfl) (by rfl), ?_⟩
   | fail
  all_goals (conv => whnf)
  all_goals rfl
end Go.Proofs.Ythgalldffgaddaa
