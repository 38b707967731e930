/- Chapter 14: the reference: New. -/
import Derived.Test.YtbppemcdphgknaaSlQ
set_option linter.unusedVariables false
set_option linter.unusedSimpArgs false
namespace Go.Proofs.Ytbppemcdphgknaa
open Go Go.Vm
set_option maxRecDepth 100000
set_option maxHeartbeats 40000000
set_option linter.unusedSimpArgs false
set_option linter.unusedVariables false
theorem rep_B (n : Nat) : List.replicate n [V.bool false] = rowB (List.replicate n false) := by simp [rowB]
theorem rep_X (n : Nat) : List.replicate n [V.nils] = rowX (List.replicate n none) := by simp [rowX, lV]
/-- So many there may be. -/
def cap14 (n : Int) : Int := if 2000 < (if 0 > n then 0 else n) then 2000 else (if 0 > n then 0 else n)
theorem cap14_eq (n : Int) : cap14 n = capOf n ∧ 0 ≤ cap14 n ∧ cap14 n ≤ 2000 := by
  unfold cap14 capOf
  refine ⟨?_, ?_, ?_⟩ <;> split <;> split <;> (try split) <;> (try split) <;> omega
theorem shut_rs (m m' : Name) (hne : m ≠ m') (T : List Bool) (X : List (Option (List En))) (made : Int) {n k : Nat} (hn : T.length = n) (hk : X.length = k) {rT rX : List (List V)} (h1 : rT = rowB T) (h2 : rX = rowX X) :
    Shut (rsD T X made) [m, m'] [.rsl m 1 0 n, .rsl m' 1 0 k, i64V made] [.row 1 rT false, .row 1 rX false] := by
  subst hn hk h1 h2
  exact ⟨rfl, .cons (.refl _) (.cons (.refl _) .nil), by simp [rsD, Deep.op, okC, okN], by
    simp only [rsD, Deep.op, List.mem_cons, List.not_mem_nil, or_false, forall_eq_or_imp, forall_eq]
    exact ⟨pure_B' T, pure_X X⟩⟩
theorem new14 (n : Int) : ATriple Try.prog gv R0 18 [i64V n] [] (.ref (0, 0) 0) [] (some (.abs (rsD (List.replicate (capOf n).toNat false) (List.replicate (capOf n).toNat none) 0))) := by
  obtain ⟨e1, e2, e3⟩ := cap14_eq n
  rw [← e1]
  have bl : (0 : Int) ≤ cap14 n ∧ cap14 n ≤ cap14 n ∧ cap14 n * 1 ≤ roomBound ∧ cap14 n ≤ roomBound := ⟨by omega, by omega, by unfold roomBound; omega, by unfold roomBound; omega⟩
  have bl2 : (0 : Int) ≤ cap14 n ∧ cap14 n ≤ cap14 n ∧ cap14 n * 24 ≤ roomBound ∧ cap14 n ≤ roomBound := ⟨by omega, by omega, by unfold roomBound; omega, by unfold roomBound; omega⟩
  refine ATriple.of_bodyW (C := cx) Try.func18 rfl (by kernel_rfl) mixed rfl (by simp [okA, okC, okN]) (by simp) (by simp) (by simp) (fun o ho => by cases ho; exact ⟨trivial, rfl⟩) 0 [] fun E hE => ?_
  repeat' (conv => whnf); first
   | (refine bcase_of (fun hr => ?_) (fun hr => ?_) <;> (try simp only [decide_eq_true_eq, decide_eq_false_iff_not, ge_iff_le] at hr) <;> try (exfalso; first | omega | (simp at hr; done)))
   | (apply And.intro; · first | exact Nat.le_of_ble_eq_true rfl | (show indep _ _ = true; kernel_rfl) | decide | exact bl | exact bl2 | exact ⟨by decide, by decide⟩ | exact ⟨Nat.le_of_ble_eq_true rfl, allOne_of rfl⟩)
   | (apply Exists.intro; apply And.intro; · first | exact rfl)
   | fail
  refine ⟨[.shut (12, 1) (rsD (List.replicate (cap14 n).toNat false) (List.replicate (cap14 n).toNat none) 0)], ?_⟩
  conv => whnf
  refine ⟨shut_rs (8, 1) (10, 1) (by decide) _ _ _ (by simp; rfl) (by simp; rfl) (rep_B _) (rep_X _), ?_⟩
  conv => whnf
  exact ⟨(12, 1), by decide, rfl, rfl, rfl, rfl⟩
end Go.Proofs.Ytbppemcdphgknaa
