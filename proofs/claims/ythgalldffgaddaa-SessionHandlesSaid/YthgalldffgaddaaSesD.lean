/- Chapter 24: what its functions come to (SesD). -/
import Derived.Test.YthgalldffgaddaaSesC
set_option linter.unusedVariables false
set_option linter.unusedSimpArgs false
namespace Go.Proofs.Ythgalldffgaddaa
open Go Go.Vm
set_option maxRecDepth 100000
set_option maxHeartbeats 4000000
set_option linter.unusedSimpArgs false
theorem tick_in (n m : Int) (hn : 0 ≤ n ∧ n ≤ 1099511627776) : 0 ≤ tickT n m ∧ tickT n m ≤ 1099511627776 := by unfold tickT; omega
theorem time_ok (a b : Int) : PTriple Try.prog gv 7 [i64V a, i64V b] (.bool true) := by
  have e1 : (if 0 > a then 0 else a) = max a 0 := by simp only [Int.max_def]; (repeat' split) <;> omega
  have f1 : (if 0 > b then 0 else b) = max b 0 := by simp only [Int.max_def]; (repeat' split) <;> omega
  have e2 : (if 1099511627776 < max a 0 then 1099511627776 else max a 0) = tickT 0 a := by unfold tickT; (repeat' split) <;> omega
  have f2 : (if 1099511627776 < max b 0 then 1099511627776 else max b 0) = min (max b 0) 1099511627776 := by (repeat' split) <;> omega
  have hw : (if 1099511627776 < IntKind.i64.wrap (tickT 0 a + min (max b 0) 1099511627776) then 1099511627776 else IntKind.i64.wrap (tickT 0 a + min (max b 0) 1099511627776)) = tickT (tickT 0 a) b := by
    have h0 := tick_in 0 a (by decide)
    rw [wrapI64 (by omega) (by omega)]
    generalize tickT 0 a = t at *
    unfold tickT
    (repeat' split) <;> omega
  refine PTriple.of_body (C := cx) Try.func7 rfl (by kernel_rfl) mixed fun E hE => ?_
  repeat' (conv => whnf); first
   | (refine bcase_of (fun hr => ?_) (fun hr => ?_) <;> (try dsimp only at hr) <;> (try simp only [e1, e2, f1, f2, hw, beq_self_eq_true] at hr) <;> try (exfalso; simp at hr; done))
   | (refine And.intro (by first | exact Nat.le_of_ble_eq_true rfl | decide) ?_)
   | (refine And.intro (by show indep _ _ = true; kernel_rfl) ?_)
   | (refine Exists.intro _ (And.intro (by first | exact rfl | exact wakes_ok) ?_))
   | refine ⟨_, _, _, ATriple.call (new_ok 2 1 (by decide) (by decide)) (by rfl) (by rfl) (by rfl), ?_⟩
   | refine ⟨_, _, _, ATriple.call (tick_ok 2 1 0 p0 p0 p0 p0 p0 p0 a (by decide)) (by rfl) (by rfl) (by rfl), ?_⟩
   | refine ⟨_, _, _, ATriple.call (now_ok 2 1 (tickT 0 a) p0 p0 p0 p0 p0 p0) (by rfl) (by rfl) (by rfl), ?_⟩
   | refine ⟨_, _, _, ATriple.call (tick_ok 2 1 (tickT 0 a) p0 p0 p0 p0 p0 p0 b (tick_in 0 a (by decide))) (by rfl) (by rfl) (by rfl), ?_⟩
   | refine ⟨_, _, _, ATriple.call (now_ok 2 1 (tickT (tickT 0 a) b) p0 p0 p0 p0 p0 p0) (by rfl) (by rfl) (by rfl), ?_⟩
   | fail
  all_goals (conv => whnf)
  all_goals rfl
end Go.Proofs.Ythgalldffgaddaa
