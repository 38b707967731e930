/- Chapter 1: what its functions come to (CalD). -/
import Derived.Test.YtccnfkblkihgjaaCalC
set_option linter.unusedVariables false
set_option linter.unusedSimpArgs false
namespace Go.Proofs.Ytccnfkblkihgjaa
open Go Go.Vm
set_option maxRecDepth 100000
set_option maxHeartbeats 4000000
set_option linter.unusedSimpArgs false
theorem mulsB {x y : Int} (hx : 0 ≤ x ∧ x < 18446744073709551616) (hy : 0 ≤ y ∧ y < 18446744073709551616) :
    (0 ≤ x / 4294967296 * (y / 4294967296) ∧ x / 4294967296 * (y / 4294967296) ≤ 18446744065119617025) ∧ (0 ≤ x / 4294967296 * (y % 4294967296) ∧ x / 4294967296 * (y % 4294967296) ≤ 18446744065119617025) ∧
    (0 ≤ x % 4294967296 * (y / 4294967296) ∧ x % 4294967296 * (y / 4294967296) ≤ 18446744065119617025) ∧ (0 ≤ x % 4294967296 * (y % 4294967296) ∧ x % 4294967296 * (y % 4294967296) ≤ 18446744065119617025) :=
  ⟨mul_bnd (by omega) (by omega) (by omega) (by omega), mul_bnd (by omega) (by omega) (by omega) (by omega), mul_bnd (by omega) (by omega) (by omega) (by omega), mul_bnd (by omega) (by omega) (by omega) (by omega)⟩
theorem shl32' (x : Int) : x * 2 ^ min (32 : Int).toNat IntKind.u64.bits = x * 4294967296 := rfl
theorem ok14 (a b : Int) (ha : in64 a) (hb : in64 b) : PTriple Try.prog gv 14 [i64V a, i64V b] (smag (a * b)) := by
  refine PTriple.of_body (C := cx) Try.func14 rfl (by kernel_rfl) mixed fun E hE => ?_
  repeat' (conv => whnf); first
   | (refine bcase_of (fun hr => ?_) (fun hr => ?_) <;> (try simp only [decide_eq_true_eq, decide_eq_false_iff_not, gt_iff_lt, bne_iff_ne, ne_eq, beq_iff_eq, bne_eq_false_iff_eq, beq_eq_false_iff_ne] at hr) <;> try (exfalso; first | omega | (simp at hr; done)))
   | (refine And.intro (by first | exact Nat.le_of_ble_eq_true rfl | decide | decide) ?_)
   | (refine And.intro (by show indep _ _ = true; kernel_rfl) ?_)
   | (refine Exists.intro _ (And.intro (by first | exact rfl | exact ok24 _ ha | exact ok24 _ hb) ?_))
   | fail
  all_goals (conv => whnf)
  all_goals have ea := abs_in ha
  all_goals have eb := abs_in hb
  all_goals have hab := abs_mul_bnd ha hb
  all_goals first
    | have hp := abs_mul_nn ‹a < 0› ‹b < 0›
    | have hp := abs_mul_pp ‹¬a < 0› ‹¬b < 0›
    | have hp := abs_mul_np ‹a < 0› ‹¬b < 0›
    | have hp := abs_mul_pn ‹¬a < 0› ‹b < 0›
  all_goals have e1 := mul_parts (a.natAbs : Int) b.natAbs
  all_goals obtain ⟨⟨b1, b1'⟩, ⟨b2, b2'⟩, ⟨b3, b3'⟩, ⟨b4, b4'⟩⟩ := mulsB ea eb
  all_goals simp only [shr32, and32 _ ea.1 ea.2, and32 _ eb.1 eb.2] at *
  all_goals rw [hp]
  all_goals clear hp ha hb
  all_goals refine smag_of ?_ ?_ ?_
  all_goals generalize (a.natAbs : Int) * b.natAbs = pr at *
  all_goals generalize (a.natAbs : Int) / 4294967296 * (b.natAbs / 4294967296) = q1 at *
  all_goals generalize (a.natAbs : Int) / 4294967296 * (b.natAbs % 4294967296) = q2 at *
  all_goals generalize (a.natAbs : Int) % 4294967296 * (b.natAbs / 4294967296) = q3 at *
  all_goals generalize (a.natAbs : Int) % 4294967296 * (b.natAbs % 4294967296) = q4 at *
  all_goals clear ea eb
  all_goals simp only [wrapU, shl32'] at *
  all_goals have r1 : q1 % 18446744073709551616 = q1 := by omega
  all_goals have r2 : q2 % 18446744073709551616 = q2 := by omega
  all_goals have r3 : q3 % 18446744073709551616 = q3 := by omega
  all_goals have r4 : q4 % 18446744073709551616 = q4 := by omega
  all_goals (try simp only [r1, r2, r3, r4] at *)
  all_goals have n2 := and32' q2 b2 (by omega)
  all_goals have n3 := and32' q3 b3 (by omega)
  all_goals have n4 := and32' q4 b4 (by omega)
  all_goals (try simp only [n2, n3, n4] at *)
  all_goals have o := or32' (((q4 / 4294967296 + q2 % 4294967296) % 18446744073709551616 + q3 % 4294967296) % 18446744073709551616 * 4294967296 % 18446744073709551616) (q4 % 4294967296) (by omega) (by omega) (by omega) (by omega) (by omega)
  all_goals (try simp only [o] at *)
  all_goals clear hE E
  all_goals (first | omega | (exact (decide_eq_true (show _ by omega)).symm) | (exact (decide_eq_false (show _ by omega)).symm) | skip)
end Go.Proofs.Ytccnfkblkihgjaa
