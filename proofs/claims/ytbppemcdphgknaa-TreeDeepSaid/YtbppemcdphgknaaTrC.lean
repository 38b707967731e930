/- Chapter 16: what its functions come to (TrC): of, half. -/
import Derived.Test.YtbppemcdphgknaaTrB
import Derived.Test.YtbppemcdphgknaaVm25
set_option linter.unusedVariables false
set_option linter.unusedSimpArgs false
namespace Go.Proofs.Ytbppemcdphgknaa.T
open Go Go.Vm
set_option maxRecDepth 100000
set_option maxHeartbeats 4000000
set_option linter.unusedSimpArgs false
set_option linter.unusedVariables false
def keyB (b : Blk) (i : Int) : Int := if i = 0 then b.k0 else if i = 1 then b.k1 else if i = 2 then b.k2 else if i = 3 then b.k3 else if i = 4 then b.k4 else if i = 5 then b.k5 else 0
def valB (b : Blk) (i : Int) : Int := if i = 0 then b.v0 else if i = 1 then b.v1 else if i = 2 then b.v2 else if i = 3 then b.v3 else if i = 4 then b.v4 else if i = 5 then b.v5 else 0
def ofB (b : Blk) (f t : Int) : Blk := ⟨t - f, (if 0 < t - f then keyB b (f + 0) else 0), (if 1 < t - f then keyB b (f + 1) else 0), (if 2 < t - f then keyB b (f + 2) else 0), (if 3 < t - f then keyB b (f + 3) else 0), (if 4 < t - f then keyB b (f + 4) else 0), (if 5 < t - f then keyB b (f + 5) else 0), (if 0 < t - f then valB b (f + 0) else 0), (if 1 < t - f then valB b (f + 1) else 0), (if 2 < t - f then valB b (f + 2) else 0), (if 3 < t - f then valB b (f + 3) else 0), (if 4 < t - f then valB b (f + 4) else 0), (if 5 < t - f then valB b (f + 5) else 0)⟩
def behB (a b : Blk) (f t : Int) : Blk := ⟨a.n + (t - f), (if a.n ≤ 0 ∧ 0 < a.n + (t - f) then keyB b (f + (0 - a.n)) else a.k0), (if a.n ≤ 1 ∧ 1 < a.n + (t - f) then keyB b (f + (1 - a.n)) else a.k1), (if a.n ≤ 2 ∧ 2 < a.n + (t - f) then keyB b (f + (2 - a.n)) else a.k2), (if a.n ≤ 3 ∧ 3 < a.n + (t - f) then keyB b (f + (3 - a.n)) else a.k3), (if a.n ≤ 4 ∧ 4 < a.n + (t - f) then keyB b (f + (4 - a.n)) else a.k4), (if a.n ≤ 5 ∧ 5 < a.n + (t - f) then keyB b (f + (5 - a.n)) else a.k5), (if a.n ≤ 0 ∧ 0 < a.n + (t - f) then valB b (f + (0 - a.n)) else a.v0), (if a.n ≤ 1 ∧ 1 < a.n + (t - f) then valB b (f + (1 - a.n)) else a.v1), (if a.n ≤ 2 ∧ 2 < a.n + (t - f) then valB b (f + (2 - a.n)) else a.v2), (if a.n ≤ 3 ∧ 3 < a.n + (t - f) then valB b (f + (3 - a.n)) else a.v3), (if a.n ≤ 4 ∧ 4 < a.n + (t - f) then valB b (f + (4 - a.n)) else a.v4), (if a.n ≤ 5 ∧ 5 < a.n + (t - f) then valB b (f + (5 - a.n)) else a.v5)⟩
theorem half_ok (n : Int) (h : 0 ≤ n ∧ n ≤ 12) : PTriple Try.prog gv 67 [i64V n] (i64V ((n + 1) / 2)) := by
  refine PTriple.of_body (C := cx) Try.func67 rfl (by kernel_rfl) mixed fun E hE => ?_
  repeat' (conv => whnf); first
   | (refine bcase_of (fun hr => ?_) (fun hr => ?_) <;> skip)
   | (apply And.intro; · first | exact Nat.le_of_ble_eq_true rfl | decide | decide | (show indep _ _ = true; kernel_rfl))
   | (apply Exists.intro; apply And.intro; · first | exact rfl)
   | fail
  all_goals (conv => whnf)
  refine congrArg i64V ?_
  rw [Int.tdiv_eq_ediv_of_nonneg h.1, wrapI64 (n := n / 2) (by omega) (by omega), wrapI64 (by omega) (by omega)]
  omega
theorem of_ok (b : Blk) (f t : Int) (h : 0 ≤ f ∧ f ≤ t ∧ t ≤ 6) : PTriple Try.prog gv 64 [bV b, i64V f, i64V t] (bV (ofB b f t)) := by
  rcases (show f = 0 ∨ f = 1 ∨ f = 2 ∨ f = 3 ∨ f = 4 ∨ f = 5 ∨ f = 6 by omega) with rfl | rfl | rfl | rfl | rfl | rfl | rfl
  all_goals
    rcases (show t = 0 ∨ t = 1 ∨ t = 2 ∨ t = 3 ∨ t = 4 ∨ t = 5 ∨ t = 6 by omega) with rfl | rfl | rfl | rfl | rfl | rfl | rfl
  all_goals first | (exfalso; omega) | skip
  all_goals clear h
  all_goals refine PTriple.of_body (C := cx) Try.func64 rfl (by kernel_rfl) mixed fun E hE => ?_
  all_goals
    repeat' (conv => whnf); first
     | (apply And.intro; · first | exact Nat.le_of_ble_eq_true rfl | decide | exact ⟨by decide, by decide⟩ | exact ⟨Nat.le_of_ble_eq_true rfl, allOne_of rfl⟩ | (show indep _ _ = true; kernel_rfl))
     | (apply Exists.intro; apply And.intro; · first | exact rfl)
     | fail
  all_goals (conv => whnf)
  all_goals rfl
theorem behind_0 (a b : Blk) (f t : Int) (ha : a.n = 0) (h : 0 ≤ f ∧ f ≤ t ∧ t ≤ 6) (hr : 0 + (t - f) ≤ 6) : PTriple Try.prog gv 63 [bV a, bV b, i64V f, i64V t] (bV (behB a b f t)) := by
  obtain ⟨n, k0, k1, k2, k3, k4, k5, v0, v1, v2, v3, v4, v5⟩ := a
  simp only at ha
  subst ha
  rcases (show f = 0 ∨ f = 1 ∨ f = 2 ∨ f = 3 ∨ f = 4 ∨ f = 5 ∨ f = 6 by omega) with rfl | rfl | rfl | rfl | rfl | rfl | rfl
  all_goals
    rcases (show t = 0 ∨ t = 1 ∨ t = 2 ∨ t = 3 ∨ t = 4 ∨ t = 5 ∨ t = 6 by omega) with rfl | rfl | rfl | rfl | rfl | rfl | rfl
  all_goals first | (exfalso; omega) | skip
  all_goals clear h hr
  all_goals dsimp only [bV, bc]
  all_goals refine PTriple.of_body (C := cx) Try.func63 rfl (by kernel_rfl) mixed fun E hE => ?_
  all_goals
    repeat' (conv => whnf); first
     | (apply And.intro; · first | exact Nat.le_of_ble_eq_true rfl | decide | exact ⟨by decide, by decide⟩ | exact ⟨Nat.le_of_ble_eq_true rfl, allOne_of rfl⟩ | (show indep _ _ = true; kernel_rfl))
     | (apply Exists.intro; apply And.intro; · first | exact rfl)
     | fail
  all_goals (conv => whnf)
  all_goals rfl
theorem behind_1 (a b : Blk) (f t : Int) (ha : a.n = 1) (h : 0 ≤ f ∧ f ≤ t ∧ t ≤ 6) (hr : 1 + (t - f) ≤ 6) : PTriple Try.prog gv 63 [bV a, bV b, i64V f, i64V t] (bV (behB a b f t)) := by
  obtain ⟨n, k0, k1, k2, k3, k4, k5, v0, v1, v2, v3, v4, v5⟩ := a
  simp only at ha
  subst ha
  rcases (show f = 0 ∨ f = 1 ∨ f = 2 ∨ f = 3 ∨ f = 4 ∨ f = 5 ∨ f = 6 by omega) with rfl | rfl | rfl | rfl | rfl | rfl | rfl
  all_goals
    rcases (show t = 0 ∨ t = 1 ∨ t = 2 ∨ t = 3 ∨ t = 4 ∨ t = 5 ∨ t = 6 by omega) with rfl | rfl | rfl | rfl | rfl | rfl | rfl
  all_goals first | (exfalso; omega) | skip
  all_goals clear h hr
  all_goals dsimp only [bV, bc]
  all_goals refine PTriple.of_body (C := cx) Try.func63 rfl (by kernel_rfl) mixed fun E hE => ?_
  all_goals
    repeat' (conv => whnf); first
     | (apply And.intro; · first | exact Nat.le_of_ble_eq_true rfl | decide | exact ⟨by decide, by decide⟩ | exact ⟨Nat.le_of_ble_eq_true rfl, allOne_of rfl⟩ | (show indep _ _ = true; kernel_rfl))
     | (apply Exists.intro; apply And.intro; · first | exact rfl)
     | fail
  all_goals (conv => whnf)
  all_goals rfl
theorem behind_2 (a b : Blk) (f t : Int) (ha : a.n = 2) (h : 0 ≤ f ∧ f ≤ t ∧ t ≤ 6) (hr : 2 + (t - f) ≤ 6) : PTriple Try.prog gv 63 [bV a, bV b, i64V f, i64V t] (bV (behB a b f t)) := by
  obtain ⟨n, k0, k1, k2, k3, k4, k5, v0, v1, v2, v3, v4, v5⟩ := a
  simp only at ha
  subst ha
  rcases (show f = 0 ∨ f = 1 ∨ f = 2 ∨ f = 3 ∨ f = 4 ∨ f = 5 ∨ f = 6 by omega) with rfl | rfl | rfl | rfl | rfl | rfl | rfl
  all_goals
    rcases (show t = 0 ∨ t = 1 ∨ t = 2 ∨ t = 3 ∨ t = 4 ∨ t = 5 ∨ t = 6 by omega) with rfl | rfl | rfl | rfl | rfl | rfl | rfl
  all_goals first | (exfalso; omega) | skip
  all_goals clear h hr
  all_goals dsimp only [bV, bc]
  all_goals refine PTriple.of_body (C := cx) Try.func63 rfl (by kernel_rfl) mixed fun E hE => ?_
  all_goals
    repeat' (conv => whnf); first
     | (apply And.intro; · first | exact Nat.le_of_ble_eq_true rfl | decide | exact ⟨by decide, by decide⟩ | exact ⟨Nat.le_of_ble_eq_true rfl, allOne_of rfl⟩ | (show indep _ _ = true; kernel_rfl))
     | (apply Exists.intro; apply And.intro; · first | exact rfl)
     | fail
  all_goals (conv => whnf)
  all_goals rfl
theorem behind_3 (a b : Blk) (f t : Int) (ha : a.n = 3) (h : 0 ≤ f ∧ f ≤ t ∧ t ≤ 6) (hr : 3 + (t - f) ≤ 6) : PTriple Try.prog gv 63 [bV a, bV b, i64V f, i64V t] (bV (behB a b f t)) := by
  obtain ⟨n, k0, k1, k2, k3, k4, k5, v0, v1, v2, v3, v4, v5⟩ := a
  simp only at ha
  subst ha
  rcases (show f = 0 ∨ f = 1 ∨ f = 2 ∨ f = 3 ∨ f = 4 ∨ f = 5 ∨ f = 6 by omega) with rfl | rfl | rfl | rfl | rfl | rfl | rfl
  all_goals
    rcases (show t = 0 ∨ t = 1 ∨ t = 2 ∨ t = 3 ∨ t = 4 ∨ t = 5 ∨ t = 6 by omega) with rfl | rfl | rfl | rfl | rfl | rfl | rfl
  all_goals first | (exfalso; omega) | skip
  all_goals clear h hr
  all_goals dsimp only [bV, bc]
  all_goals refine PTriple.of_body (C := cx) Try.func63 rfl (by kernel_rfl) mixed fun E hE => ?_
  all_goals
    repeat' (conv => whnf); first
     | (apply And.intro; · first | exact Nat.le_of_ble_eq_true rfl | decide | exact ⟨by decide, by decide⟩ | exact ⟨Nat.le_of_ble_eq_true rfl, allOne_of rfl⟩ | (show indep _ _ = true; kernel_rfl))
     | (apply Exists.intro; apply And.intro; · first | exact rfl)
     | fail
  all_goals (conv => whnf)
  all_goals rfl
theorem behind_4 (a b : Blk) (f t : Int) (ha : a.n = 4) (h : 0 ≤ f ∧ f ≤ t ∧ t ≤ 6) (hr : 4 + (t - f) ≤ 6) : PTriple Try.prog gv 63 [bV a, bV b, i64V f, i64V t] (bV (behB a b f t)) := by
  obtain ⟨n, k0, k1, k2, k3, k4, k5, v0, v1, v2, v3, v4, v5⟩ := a
  simp only at ha
  subst ha
  rcases (show f = 0 ∨ f = 1 ∨ f = 2 ∨ f = 3 ∨ f = 4 ∨ f = 5 ∨ f = 6 by omega) with rfl | rfl | rfl | rfl | rfl | rfl | rfl
  all_goals
    rcases (show t = 0 ∨ t = 1 ∨ t = 2 ∨ t = 3 ∨ t = 4 ∨ t = 5 ∨ t = 6 by omega) with rfl | rfl | rfl | rfl | rfl | rfl | rfl
  all_goals first | (exfalso; omega) | skip
  all_goals clear h hr
  all_goals dsimp only [bV, bc]
  all_goals refine PTriple.of_body (C := cx) Try.func63 rfl (by kernel_rfl) mixed fun E hE => ?_
  all_goals
    repeat' (conv => whnf); first
     | (apply And.intro; · first | exact Nat.le_of_ble_eq_true rfl | decide | exact ⟨by decide, by decide⟩ | exact ⟨Nat.le_of_ble_eq_true rfl, allOne_of rfl⟩ | (show indep _ _ = true; kernel_rfl))
     | (apply Exists.intro; apply And.intro; · first | exact rfl)
     | fail
  all_goals (conv => whnf)
  all_goals rfl
theorem behind_5 (a b : Blk) (f t : Int) (ha : a.n = 5) (h : 0 ≤ f ∧ f ≤ t ∧ t ≤ 6) (hr : 5 + (t - f) ≤ 6) : PTriple Try.prog gv 63 [bV a, bV b, i64V f, i64V t] (bV (behB a b f t)) := by
  obtain ⟨n, k0, k1, k2, k3, k4, k5, v0, v1, v2, v3, v4, v5⟩ := a
  simp only at ha
  subst ha
  rcases (show f = 0 ∨ f = 1 ∨ f = 2 ∨ f = 3 ∨ f = 4 ∨ f = 5 ∨ f = 6 by omega) with rfl | rfl | rfl | rfl | rfl | rfl | rfl
  all_goals
    rcases (show t = 0 ∨ t = 1 ∨ t = 2 ∨ t = 3 ∨ t = 4 ∨ t = 5 ∨ t = 6 by omega) with rfl | rfl | rfl | rfl | rfl | rfl | rfl
  all_goals first | (exfalso; omega) | skip
  all_goals clear h hr
  all_goals dsimp only [bV, bc]
  all_goals refine PTriple.of_body (C := cx) Try.func63 rfl (by kernel_rfl) mixed fun E hE => ?_
  all_goals
    repeat' (conv => whnf); first
     | (apply And.intro; · first | exact Nat.le_of_ble_eq_true rfl | decide | exact ⟨by decide, by decide⟩ | exact ⟨Nat.le_of_ble_eq_true rfl, allOne_of rfl⟩ | (show indep _ _ = true; kernel_rfl))
     | (apply Exists.intro; apply And.intro; · first | exact rfl)
     | fail
  all_goals (conv => whnf)
  all_goals rfl
theorem behind_6 (a b : Blk) (f t : Int) (ha : a.n = 6) (h : 0 ≤ f ∧ f ≤ t ∧ t ≤ 6) (hr : 6 + (t - f) ≤ 6) : PTriple Try.prog gv 63 [bV a, bV b, i64V f, i64V t] (bV (behB a b f t)) := by
  obtain ⟨n, k0, k1, k2, k3, k4, k5, v0, v1, v2, v3, v4, v5⟩ := a
  simp only at ha
  subst ha
  rcases (show f = 0 ∨ f = 1 ∨ f = 2 ∨ f = 3 ∨ f = 4 ∨ f = 5 ∨ f = 6 by omega) with rfl | rfl | rfl | rfl | rfl | rfl | rfl
  all_goals
    rcases (show t = 0 ∨ t = 1 ∨ t = 2 ∨ t = 3 ∨ t = 4 ∨ t = 5 ∨ t = 6 by omega) with rfl | rfl | rfl | rfl | rfl | rfl | rfl
  all_goals first | (exfalso; omega) | skip
  all_goals clear h hr
  all_goals dsimp only [bV, bc]
  all_goals refine PTriple.of_body (C := cx) Try.func63 rfl (by kernel_rfl) mixed fun E hE => ?_
  all_goals
    repeat' (conv => whnf); first
     | (apply And.intro; · first | exact Nat.le_of_ble_eq_true rfl | decide | exact ⟨by decide, by decide⟩ | exact ⟨Nat.le_of_ble_eq_true rfl, allOne_of rfl⟩ | (show indep _ _ = true; kernel_rfl))
     | (apply Exists.intro; apply And.intro; · first | exact rfl)
     | fail
  all_goals (conv => whnf)
  all_goals rfl
theorem behind_ok (a b : Blk) (f t : Int) (ha : 0 ≤ a.n) (h : 0 ≤ f ∧ f ≤ t ∧ t ≤ 6) (hr : a.n + (t - f) ≤ 6) : PTriple Try.prog gv 63 [bV a, bV b, i64V f, i64V t] (bV (behB a b f t)) := by
  rcases (show a.n = 0 ∨ a.n = 1 ∨ a.n = 2 ∨ a.n = 3 ∨ a.n = 4 ∨ a.n = 5 ∨ a.n = 6 by omega) with e | e | e | e | e | e | e
  · exact behind_0 a b f t e h (by omega)
  · exact behind_1 a b f t e h (by omega)
  · exact behind_2 a b f t e h (by omega)
  · exact behind_3 a b f t e h (by omega)
  · exact behind_4 a b f t e h (by omega)
  · exact behind_5 a b f t e h (by omega)
  · exact behind_6 a b f t e h (by omega)
end Go.Proofs.Ytbppemcdphgknaa.T
