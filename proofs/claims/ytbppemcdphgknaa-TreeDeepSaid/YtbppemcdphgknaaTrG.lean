/- Chapter 16: what its functions come to (TrG): which one stands ahead. -/
import Derived.Test.YtbppemcdphgknaaTrF
set_option linter.unusedVariables false
set_option linter.unusedSimpArgs false
namespace Go.Proofs.Ytbppemcdphgknaa.T
open Go Go.Vm
set_option maxRecDepth 100000
set_option maxHeartbeats 4000000
set_option linter.unusedSimpArgs false
set_option linter.unusedVariables false
def aft : List (Int × Int) → List (Int × Int) → Bool
  | _, [] => true
  | l, y :: _ => match l.getLast? with
    | none => true
    | some x => decide (x.1 < y.1)
def aheadK (a b : Blk) : Bool := (a.n == 0) || (b.n == 0) || decide (keyB a (a.n - 1) < b.k0)
theorem n_B {l : List (Int × Int)} (h : l.length ≤ 6) : (B l).n = l.length := by
  rcases len_cases (h) with rfl | ⟨a, rfl⟩ | ⟨a, b, rfl⟩ | ⟨a, b, c, rfl⟩ | ⟨a, b, c, d, rfl⟩ | ⟨a, b, c, d, e, rfl⟩ | ⟨a, b, c, d, e, f, rfl⟩
  all_goals rfl
theorem rank_le (l : List (Int × Int)) (k : Int) : 0 ≤ rank l k ∧ rank l k ≤ l.length := by
  induction l with
  | nil => simp [rank]
  | cons a r ih =>
    by_cases h : a.1 < k
    · simp [rank, h]; omega
    · simp [rank, h]; omega
theorem rank_lt {l : List (Int × Int)} {k : Int} (h : has l k = true) : rank l k < l.length := by
  induction l with
  | nil => simp [has] at h
  | cons a r ih =>
    by_cases h1 : a.1 < k
    · simp only [has, h1, if_true] at h
      have := ih h
      simp [rank, h1]; omega
    · simp [rank, h1] <;> omega
theorem aheadK_eq {l m : List (Int × Int)} (hl : Lg l) (hm : Lg m) : aheadK (B l) (B m) = aft l m := by
  rcases len_cases (hl.len) with rfl | ⟨a, rfl⟩ | ⟨a, b, rfl⟩ | ⟨a, b, c, rfl⟩ | ⟨a, b, c, d, rfl⟩ | ⟨a, b, c, d, e, rfl⟩ | ⟨a, b, c, d, e, f, rfl⟩
  all_goals
    rcases len_cases (hm.len) with rfl | ⟨a, rfl⟩ | ⟨a, b, rfl⟩ | ⟨a, b, c, rfl⟩ | ⟨a, b, c, d, rfl⟩ | ⟨a, b, c, d, e, rfl⟩ | ⟨a, b, c, d, e, f, rfl⟩
  all_goals first | rfl | simp [aheadK, aft, B, keyB]
theorem ahead_good (a b : Blk) (ha : goodB a = true) (hb : goodB b = true) : PTriple Try.prog gv 68 [bV a, bV b] (.bool (aheadK a b)) := by
  have c1 := good_ok a
  have c2 := good_ok b
  rw [ha] at c1
  rw [hb] at c2
  have hn := ((goodB_iff a).1 ha)
  have hn1 := hn.1
  have hn2 := hn.2.1
  clear ha hb hn
  obtain ⟨n, k0, k1, k2, k3, k4, k5, v0, v1, v2, v3, v4, v5⟩ := a
  dsimp only at hn1 hn2
  rcases (show n = 0 ∨ n = 1 ∨ n = 2 ∨ n = 3 ∨ n = 4 ∨ n = 5 ∨ n = 6 by omega) with rfl | rfl | rfl | rfl | rfl | rfl | rfl
  all_goals dsimp only [bV, bc] at c1 c2 ⊢
  all_goals refine PTriple.of_body (C := cx) Try.func68 rfl (by kernel_rfl) mixed fun E hE => ?_
  all_goals
    repeat' (conv => whnf); first
     | (refine bcase_of (fun hr => ?_) (fun hr => ?_) <;> skip)
     | (apply And.intro; · first | exact Nat.le_of_ble_eq_true rfl | (show indep _ _ = true; kernel_rfl) | decide | exact of_decide_eq_true rfl)
     | (apply Exists.intro; apply And.intro; · first | exact rfl | exact c1 | exact c2)
     | fail
  all_goals (conv => whnf)
  all_goals first | rfl | (simp [aheadK, keyB, *]; done) | (simp [aheadK, keyB, *]; rfl)
theorem ahead_bad (a b : Blk) (h : goodB a = false ∨ goodB b = false) : PTriple Try.prog gv 68 [bV a, bV b] (.bool false) := by
  have c1 := good_ok a
  have c2 := good_ok b
  cases e : goodB a with
  | false =>
    rw [e] at c1
    refine PTriple.of_body (C := cx) Try.func68 rfl (by kernel_rfl) mixed fun E hE => ?_
    repeat' (conv => whnf); first
     | (refine bcase_of (fun hr => ?_) (fun hr => ?_) <;> skip)
     | (apply And.intro; · first | exact Nat.le_of_ble_eq_true rfl | (show indep _ _ = true; kernel_rfl) | decide)
     | (apply Exists.intro; apply And.intro; · first | exact rfl | exact c1 | exact c2)
     | fail
    all_goals (conv => whnf)
    all_goals rfl
  | true =>
    rw [e] at c1 h
    rw [h.resolve_left (by simp)] at c2
    refine PTriple.of_body (C := cx) Try.func68 rfl (by kernel_rfl) mixed fun E hE => ?_
    repeat' (conv => whnf); first
     | (refine bcase_of (fun hr => ?_) (fun hr => ?_) <;> skip)
     | (apply And.intro; · first | exact Nat.le_of_ble_eq_true rfl | (show indep _ _ = true; kernel_rfl) | decide)
     | (apply Exists.intro; apply And.intro; · first | exact rfl | exact c1 | exact c2)
     | fail
    all_goals (conv => whnf)
    all_goals rfl
theorem ahead_ok {l m : List (Int × Int)} (hl : Lg l) (hm : Lg m) : PTriple Try.prog gv 68 [bV (B l), bV (B m)] (.bool (aft l m)) := by
  rw [← aheadK_eq hl hm]
  exact ahead_good _ _ (goodB_B hl) (goodB_B hm)
end Go.Proofs.Ytbppemcdphgknaa.T
