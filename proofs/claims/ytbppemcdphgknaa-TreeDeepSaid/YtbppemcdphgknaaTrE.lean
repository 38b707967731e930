/- Chapter 16: what its functions come to (TrE): Has, Lay. -/
import Derived.Test.YtbppemcdphgknaaTrD
set_option linter.unusedVariables false
set_option linter.unusedSimpArgs false
namespace Go.Proofs.Ytbppemcdphgknaa.T
open Go Go.Vm
set_option maxRecDepth 100000
set_option maxHeartbeats 4000000
set_option linter.unusedSimpArgs false
set_option linter.unusedVariables false
theorem rhas_ok (l : List (Int × Int)) (hl : l.length ≤ 6) (k : Int) : PTriple Try.prog gv 32 [pV l, u32V k] (.tup [i64V (rank l k), .bool (has l k)]) := by
  rcases len_cases (hl) with rfl | ⟨a, rfl⟩ | ⟨a, b, rfl⟩ | ⟨a, b, c, rfl⟩ | ⟨a, b, c, d, rfl⟩ | ⟨a, b, c, d, e, rfl⟩ | ⟨a, b, c, d, e, f, rfl⟩
  all_goals clear hl
  all_goals refine PTriple.of_body (C := cx) Try.func32 rfl (by kernel_rfl) mixed fun E hE => ?_
  all_goals
    repeat' (conv => whnf); first
     | (refine bcase_of (fun hr => ?_) (fun hr => ?_) <;> (try simp only [decide_eq_true_eq, decide_eq_false_iff_not] at hr) <;> (try dsimp only [B] at hr))
     | (apply And.intro; · first | exact Nat.le_of_ble_eq_true rfl | (show indep _ _ = true; kernel_rfl) | decide | exact of_decide_eq_true rfl | exact allOne_of rfl | exact pure_of rfl | exact ⟨Nat.le_of_ble_eq_true rfl, Nat.le_of_ble_eq_true rfl⟩ | exact ⟨Nat.le_of_ble_eq_true rfl, (fun h => by cases h), Nat.le_of_ble_eq_true rfl, Nat.le_of_ble_eq_true rfl⟩)
     | (apply Exists.intro; apply And.intro; · first | exact rfl)
     | refine VLoop.unroll hE mixed ?_
     | fail
  all_goals (conv => whnf)
  all_goals first | rfl | (simp [rank, has, *]; done) | (simp [rank, has, *]; rfl)
theorem rlay_0 (k v : Int) : PTriple Try.prog gv 31 [pV [], u32V k, i64V v] (pV (lay [] k v)) := by
  have e : lay [] k v = [(k, v)] := by simp [lay]
  rw [e]
  clear e
  refine PTriple.of_body (C := cx) Try.func31 rfl (by kernel_rfl) mixed fun E hE => ?_
  repeat' (conv => whnf); first
   | (refine bcase_of (fun hr => ?_) (fun hr => ?_) <;> (try simp [k] at hr))
   | (apply And.intro; · first | exact Nat.le_of_ble_eq_true rfl | (show indep _ _ = true; kernel_rfl) | decide | exact of_decide_eq_true rfl | exact allOne_of rfl | exact pure_of rfl | exact ⟨Nat.le_of_ble_eq_true rfl, Nat.le_of_ble_eq_true rfl⟩ | exact ⟨Nat.le_of_ble_eq_true rfl, (fun h => by cases h), Nat.le_of_ble_eq_true rfl, Nat.le_of_ble_eq_true rfl⟩)
   | (apply Exists.intro; apply And.intro; · first | exact rfl)
   | refine VLoop.unroll hE mixed ?_
   | fail
  all_goals (conv => whnf)
  all_goals rfl
theorem rlay_1 (a : Int × Int) (k v : Int) : PTriple Try.prog gv 31 [pV [a], u32V k, i64V v] (pV (lay [a] k v)) := by
  by_cases h0 : a.1 < k
  case neg =>
    by_cases e0 : a.1 = k
    case pos =>
      have e : lay [a] k v = [(k, v)] := by simp [lay, h0, e0]
      rw [e]
      clear e
      refine PTriple.of_body (C := cx) Try.func31 rfl (by kernel_rfl) mixed fun E hE => ?_
      repeat' (conv => whnf); first
       | (refine bcase_of (fun hr => ?_) (fun hr => ?_) <;> (try simp [h0, e0] at hr))
       | (apply And.intro; · first | exact Nat.le_of_ble_eq_true rfl | (show indep _ _ = true; kernel_rfl) | decide | exact of_decide_eq_true rfl | exact allOne_of rfl | exact pure_of rfl | exact ⟨Nat.le_of_ble_eq_true rfl, Nat.le_of_ble_eq_true rfl⟩ | exact ⟨Nat.le_of_ble_eq_true rfl, (fun h => by cases h), Nat.le_of_ble_eq_true rfl, Nat.le_of_ble_eq_true rfl⟩)
       | (apply Exists.intro; apply And.intro; · first | exact rfl)
       | refine VLoop.unroll hE mixed ?_
       | fail
      all_goals (conv => whnf)
      all_goals rfl
    case neg =>
      have e : lay [a] k v = [(k, v), a] := by simp [lay, h0, e0]
      rw [e]
      clear e
      refine PTriple.of_body (C := cx) Try.func31 rfl (by kernel_rfl) mixed fun E hE => ?_
      repeat' (conv => whnf); first
       | (refine bcase_of (fun hr => ?_) (fun hr => ?_) <;> (try simp [h0, e0] at hr))
       | (apply And.intro; · first | exact Nat.le_of_ble_eq_true rfl | (show indep _ _ = true; kernel_rfl) | decide | exact of_decide_eq_true rfl | exact allOne_of rfl | exact pure_of rfl | exact ⟨Nat.le_of_ble_eq_true rfl, Nat.le_of_ble_eq_true rfl⟩ | exact ⟨Nat.le_of_ble_eq_true rfl, (fun h => by cases h), Nat.le_of_ble_eq_true rfl, Nat.le_of_ble_eq_true rfl⟩)
       | (apply Exists.intro; apply And.intro; · first | exact rfl)
       | refine VLoop.unroll hE mixed ?_
       | fail
      all_goals (conv => whnf)
      all_goals rfl
  case pos =>
    have e : lay [a] k v = [a, (k, v)] := by simp [lay, h0]
    rw [e]
    clear e
    refine PTriple.of_body (C := cx) Try.func31 rfl (by kernel_rfl) mixed fun E hE => ?_
    repeat' (conv => whnf); first
     | (refine bcase_of (fun hr => ?_) (fun hr => ?_) <;> (try simp [h0] at hr))
     | (apply And.intro; · first | exact Nat.le_of_ble_eq_true rfl | (show indep _ _ = true; kernel_rfl) | decide | exact of_decide_eq_true rfl | exact allOne_of rfl | exact pure_of rfl | exact ⟨Nat.le_of_ble_eq_true rfl, Nat.le_of_ble_eq_true rfl⟩ | exact ⟨Nat.le_of_ble_eq_true rfl, (fun h => by cases h), Nat.le_of_ble_eq_true rfl, Nat.le_of_ble_eq_true rfl⟩)
     | (apply Exists.intro; apply And.intro; · first | exact rfl)
     | refine VLoop.unroll hE mixed ?_
     | fail
    all_goals (conv => whnf)
    all_goals rfl
theorem rlay_2 (a b : Int × Int) (k v : Int) : PTriple Try.prog gv 31 [pV [a, b], u32V k, i64V v] (pV (lay [a, b] k v)) := by
  by_cases h0 : a.1 < k
  case neg =>
    by_cases e0 : a.1 = k
    case pos =>
      have e : lay [a, b] k v = [(k, v), b] := by simp [lay, h0, e0]
      rw [e]
      clear e
      refine PTriple.of_body (C := cx) Try.func31 rfl (by kernel_rfl) mixed fun E hE => ?_
      repeat' (conv => whnf); first
       | (refine bcase_of (fun hr => ?_) (fun hr => ?_) <;> (try simp [h0, e0] at hr))
       | (apply And.intro; · first | exact Nat.le_of_ble_eq_true rfl | (show indep _ _ = true; kernel_rfl) | decide | exact of_decide_eq_true rfl | exact allOne_of rfl | exact pure_of rfl | exact ⟨Nat.le_of_ble_eq_true rfl, Nat.le_of_ble_eq_true rfl⟩ | exact ⟨Nat.le_of_ble_eq_true rfl, (fun h => by cases h), Nat.le_of_ble_eq_true rfl, Nat.le_of_ble_eq_true rfl⟩)
       | (apply Exists.intro; apply And.intro; · first | exact rfl)
       | refine VLoop.unroll hE mixed ?_
       | fail
      all_goals (conv => whnf)
      all_goals rfl
    case neg =>
      have e : lay [a, b] k v = [(k, v), a, b] := by simp [lay, h0, e0]
      rw [e]
      clear e
      refine PTriple.of_body (C := cx) Try.func31 rfl (by kernel_rfl) mixed fun E hE => ?_
      repeat' (conv => whnf); first
       | (refine bcase_of (fun hr => ?_) (fun hr => ?_) <;> (try simp [h0, e0] at hr))
       | (apply And.intro; · first | exact Nat.le_of_ble_eq_true rfl | (show indep _ _ = true; kernel_rfl) | decide | exact of_decide_eq_true rfl | exact allOne_of rfl | exact pure_of rfl | exact ⟨Nat.le_of_ble_eq_true rfl, Nat.le_of_ble_eq_true rfl⟩ | exact ⟨Nat.le_of_ble_eq_true rfl, (fun h => by cases h), Nat.le_of_ble_eq_true rfl, Nat.le_of_ble_eq_true rfl⟩)
       | (apply Exists.intro; apply And.intro; · first | exact rfl)
       | refine VLoop.unroll hE mixed ?_
       | fail
      all_goals (conv => whnf)
      all_goals rfl
  case pos =>
    by_cases h1 : b.1 < k
    case neg =>
      by_cases e1 : b.1 = k
      case pos =>
        have e : lay [a, b] k v = [a, (k, v)] := by simp [lay, h0, h1, e1]
        rw [e]
        clear e
        refine PTriple.of_body (C := cx) Try.func31 rfl (by kernel_rfl) mixed fun E hE => ?_
        repeat' (conv => whnf); first
         | (refine bcase_of (fun hr => ?_) (fun hr => ?_) <;> (try simp [h0, h1, e1] at hr))
         | (apply And.intro; · first | exact Nat.le_of_ble_eq_true rfl | (show indep _ _ = true; kernel_rfl) | decide | exact of_decide_eq_true rfl | exact allOne_of rfl | exact pure_of rfl | exact ⟨Nat.le_of_ble_eq_true rfl, Nat.le_of_ble_eq_true rfl⟩ | exact ⟨Nat.le_of_ble_eq_true rfl, (fun h => by cases h), Nat.le_of_ble_eq_true rfl, Nat.le_of_ble_eq_true rfl⟩)
         | (apply Exists.intro; apply And.intro; · first | exact rfl)
         | refine VLoop.unroll hE mixed ?_
         | fail
        all_goals (conv => whnf)
        all_goals rfl
      case neg =>
        have e : lay [a, b] k v = [a, (k, v), b] := by simp [lay, h0, h1, e1]
        rw [e]
        clear e
        refine PTriple.of_body (C := cx) Try.func31 rfl (by kernel_rfl) mixed fun E hE => ?_
        repeat' (conv => whnf); first
         | (refine bcase_of (fun hr => ?_) (fun hr => ?_) <;> (try simp [h0, h1, e1] at hr))
         | (apply And.intro; · first | exact Nat.le_of_ble_eq_true rfl | (show indep _ _ = true; kernel_rfl) | decide | exact of_decide_eq_true rfl | exact allOne_of rfl | exact pure_of rfl | exact ⟨Nat.le_of_ble_eq_true rfl, Nat.le_of_ble_eq_true rfl⟩ | exact ⟨Nat.le_of_ble_eq_true rfl, (fun h => by cases h), Nat.le_of_ble_eq_true rfl, Nat.le_of_ble_eq_true rfl⟩)
         | (apply Exists.intro; apply And.intro; · first | exact rfl)
         | refine VLoop.unroll hE mixed ?_
         | fail
        all_goals (conv => whnf)
        all_goals rfl
    case pos =>
      have e : lay [a, b] k v = [a, b, (k, v)] := by simp [lay, h0, h1]
      rw [e]
      clear e
      refine PTriple.of_body (C := cx) Try.func31 rfl (by kernel_rfl) mixed fun E hE => ?_
      repeat' (conv => whnf); first
       | (refine bcase_of (fun hr => ?_) (fun hr => ?_) <;> (try simp [h0, h1] at hr))
       | (apply And.intro; · first | exact Nat.le_of_ble_eq_true rfl | (show indep _ _ = true; kernel_rfl) | decide | exact of_decide_eq_true rfl | exact allOne_of rfl | exact pure_of rfl | exact ⟨Nat.le_of_ble_eq_true rfl, Nat.le_of_ble_eq_true rfl⟩ | exact ⟨Nat.le_of_ble_eq_true rfl, (fun h => by cases h), Nat.le_of_ble_eq_true rfl, Nat.le_of_ble_eq_true rfl⟩)
       | (apply Exists.intro; apply And.intro; · first | exact rfl)
       | refine VLoop.unroll hE mixed ?_
       | fail
      all_goals (conv => whnf)
      all_goals rfl
theorem rlay_3 (a b c : Int × Int) (k v : Int) : PTriple Try.prog gv 31 [pV [a, b, c], u32V k, i64V v] (pV (lay [a, b, c] k v)) := by
  by_cases h0 : a.1 < k
  case neg =>
    by_cases e0 : a.1 = k
    case pos =>
      have e : lay [a, b, c] k v = [(k, v), b, c] := by simp [lay, h0, e0]
      rw [e]
      clear e
      refine PTriple.of_body (C := cx) Try.func31 rfl (by kernel_rfl) mixed fun E hE => ?_
      repeat' (conv => whnf); first
       | (refine bcase_of (fun hr => ?_) (fun hr => ?_) <;> (try simp [h0, e0] at hr))
       | (apply And.intro; · first | exact Nat.le_of_ble_eq_true rfl | (show indep _ _ = true; kernel_rfl) | decide | exact of_decide_eq_true rfl | exact allOne_of rfl | exact pure_of rfl | exact ⟨Nat.le_of_ble_eq_true rfl, Nat.le_of_ble_eq_true rfl⟩ | exact ⟨Nat.le_of_ble_eq_true rfl, (fun h => by cases h), Nat.le_of_ble_eq_true rfl, Nat.le_of_ble_eq_true rfl⟩)
       | (apply Exists.intro; apply And.intro; · first | exact rfl)
       | refine VLoop.unroll hE mixed ?_
       | fail
      all_goals (conv => whnf)
      all_goals rfl
    case neg =>
      have e : lay [a, b, c] k v = [(k, v), a, b, c] := by simp [lay, h0, e0]
      rw [e]
      clear e
      refine PTriple.of_body (C := cx) Try.func31 rfl (by kernel_rfl) mixed fun E hE => ?_
      repeat' (conv => whnf); first
       | (refine bcase_of (fun hr => ?_) (fun hr => ?_) <;> (try simp [h0, e0] at hr))
       | (apply And.intro; · first | exact Nat.le_of_ble_eq_true rfl | (show indep _ _ = true; kernel_rfl) | decide | exact of_decide_eq_true rfl | exact allOne_of rfl | exact pure_of rfl | exact ⟨Nat.le_of_ble_eq_true rfl, Nat.le_of_ble_eq_true rfl⟩ | exact ⟨Nat.le_of_ble_eq_true rfl, (fun h => by cases h), Nat.le_of_ble_eq_true rfl, Nat.le_of_ble_eq_true rfl⟩)
       | (apply Exists.intro; apply And.intro; · first | exact rfl)
       | refine VLoop.unroll hE mixed ?_
       | fail
      all_goals (conv => whnf)
      all_goals rfl
  case pos =>
    by_cases h1 : b.1 < k
    case neg =>
      by_cases e1 : b.1 = k
      case pos =>
        have e : lay [a, b, c] k v = [a, (k, v), c] := by simp [lay, h0, h1, e1]
        rw [e]
        clear e
        refine PTriple.of_body (C := cx) Try.func31 rfl (by kernel_rfl) mixed fun E hE => ?_
        repeat' (conv => whnf); first
         | (refine bcase_of (fun hr => ?_) (fun hr => ?_) <;> (try simp [h0, h1, e1] at hr))
         | (apply And.intro; · first | exact Nat.le_of_ble_eq_true rfl | (show indep _ _ = true; kernel_rfl) | decide | exact of_decide_eq_true rfl | exact allOne_of rfl | exact pure_of rfl | exact ⟨Nat.le_of_ble_eq_true rfl, Nat.le_of_ble_eq_true rfl⟩ | exact ⟨Nat.le_of_ble_eq_true rfl, (fun h => by cases h), Nat.le_of_ble_eq_true rfl, Nat.le_of_ble_eq_true rfl⟩)
         | (apply Exists.intro; apply And.intro; · first | exact rfl)
         | refine VLoop.unroll hE mixed ?_
         | fail
        all_goals (conv => whnf)
        all_goals rfl
      case neg =>
        have e : lay [a, b, c] k v = [a, (k, v), b, c] := by simp [lay, h0, h1, e1]
        rw [e]
        clear e
        refine PTriple.of_body (C := cx) Try.func31 rfl (by kernel_rfl) mixed fun E hE => ?_
        repeat' (conv => whnf); first
         | (refine bcase_of (fun hr => ?_) (fun hr => ?_) <;> (try simp [h0, h1, e1] at hr))
         | (apply And.intro; · first | exact Nat.le_of_ble_eq_true rfl | (show indep _ _ = true; kernel_rfl) | decide | exact of_decide_eq_true rfl | exact allOne_of rfl | exact pure_of rfl | exact ⟨Nat.le_of_ble_eq_true rfl, Nat.le_of_ble_eq_true rfl⟩ | exact ⟨Nat.le_of_ble_eq_true rfl, (fun h => by cases h), Nat.le_of_ble_eq_true rfl, Nat.le_of_ble_eq_true rfl⟩)
         | (apply Exists.intro; apply And.intro; · first | exact rfl)
         | refine VLoop.unroll hE mixed ?_
         | fail
        all_goals (conv => whnf)
        all_goals rfl
    case pos =>
      by_cases h2 : c.1 < k
      case neg =>
        by_cases e2 : c.1 = k
        case pos =>
          have e : lay [a, b, c] k v = [a, b, (k, v)] := by simp [lay, h0, h1, h2, e2]
          rw [e]
          clear e
          refine PTriple.of_body (C := cx) Try.func31 rfl (by kernel_rfl) mixed fun E hE => ?_
          repeat' (conv => whnf); first
           | (refine bcase_of (fun hr => ?_) (fun hr => ?_) <;> (try simp [h0, h1, h2, e2] at hr))
           | (apply And.intro; · first | exact Nat.le_of_ble_eq_true rfl | (show indep _ _ = true; kernel_rfl) | decide | exact of_decide_eq_true rfl | exact allOne_of rfl | exact pure_of rfl | exact ⟨Nat.le_of_ble_eq_true rfl, Nat.le_of_ble_eq_true rfl⟩ | exact ⟨Nat.le_of_ble_eq_true rfl, (fun h => by cases h), Nat.le_of_ble_eq_true rfl, Nat.le_of_ble_eq_true rfl⟩)
           | (apply Exists.intro; apply And.intro; · first | exact rfl)
           | refine VLoop.unroll hE mixed ?_
           | fail
          all_goals (conv => whnf)
          all_goals rfl
        case neg =>
          have e : lay [a, b, c] k v = [a, b, (k, v), c] := by simp [lay, h0, h1, h2, e2]
          rw [e]
          clear e
          refine PTriple.of_body (C := cx) Try.func31 rfl (by kernel_rfl) mixed fun E hE => ?_
          repeat' (conv => whnf); first
           | (refine bcase_of (fun hr => ?_) (fun hr => ?_) <;> (try simp [h0, h1, h2, e2] at hr))
           | (apply And.intro; · first | exact Nat.le_of_ble_eq_true rfl | (show indep _ _ = true; kernel_rfl) | decide | exact of_decide_eq_true rfl | exact allOne_of rfl | exact pure_of rfl | exact ⟨Nat.le_of_ble_eq_true rfl, Nat.le_of_ble_eq_true rfl⟩ | exact ⟨Nat.le_of_ble_eq_true rfl, (fun h => by cases h), Nat.le_of_ble_eq_true rfl, Nat.le_of_ble_eq_true rfl⟩)
           | (apply Exists.intro; apply And.intro; · first | exact rfl)
           | refine VLoop.unroll hE mixed ?_
           | fail
          all_goals (conv => whnf)
          all_goals rfl
      case pos =>
        have e : lay [a, b, c] k v = [a, b, c, (k, v)] := by simp [lay, h0, h1, h2]
        rw [e]
        clear e
        refine PTriple.of_body (C := cx) Try.func31 rfl (by kernel_rfl) mixed fun E hE => ?_
        repeat' (conv => whnf); first
         | (refine bcase_of (fun hr => ?_) (fun hr => ?_) <;> (try simp [h0, h1, h2] at hr))
         | (apply And.intro; · first | exact Nat.le_of_ble_eq_true rfl | (show indep _ _ = true; kernel_rfl) | decide | exact of_decide_eq_true rfl | exact allOne_of rfl | exact pure_of rfl | exact ⟨Nat.le_of_ble_eq_true rfl, Nat.le_of_ble_eq_true rfl⟩ | exact ⟨Nat.le_of_ble_eq_true rfl, (fun h => by cases h), Nat.le_of_ble_eq_true rfl, Nat.le_of_ble_eq_true rfl⟩)
         | (apply Exists.intro; apply And.intro; · first | exact rfl)
         | refine VLoop.unroll hE mixed ?_
         | fail
        all_goals (conv => whnf)
        all_goals rfl
theorem rlay_4 (a b c d : Int × Int) (k v : Int) : PTriple Try.prog gv 31 [pV [a, b, c, d], u32V k, i64V v] (pV (lay [a, b, c, d] k v)) := by
  by_cases h0 : a.1 < k
  case neg =>
    by_cases e0 : a.1 = k
    case pos =>
      have e : lay [a, b, c, d] k v = [(k, v), b, c, d] := by simp [lay, h0, e0]
      rw [e]
      clear e
      refine PTriple.of_body (C := cx) Try.func31 rfl (by kernel_rfl) mixed fun E hE => ?_
      repeat' (conv => whnf); first
       | (refine bcase_of (fun hr => ?_) (fun hr => ?_) <;> (try simp [h0, e0] at hr))
       | (apply And.intro; · first | exact Nat.le_of_ble_eq_true rfl | (show indep _ _ = true; kernel_rfl) | decide | exact of_decide_eq_true rfl | exact allOne_of rfl | exact pure_of rfl | exact ⟨Nat.le_of_ble_eq_true rfl, Nat.le_of_ble_eq_true rfl⟩ | exact ⟨Nat.le_of_ble_eq_true rfl, (fun h => by cases h), Nat.le_of_ble_eq_true rfl, Nat.le_of_ble_eq_true rfl⟩)
       | (apply Exists.intro; apply And.intro; · first | exact rfl)
       | refine VLoop.unroll hE mixed ?_
       | fail
      all_goals (conv => whnf)
      all_goals rfl
    case neg =>
      have e : lay [a, b, c, d] k v = [(k, v), a, b, c, d] := by simp [lay, h0, e0]
      rw [e]
      clear e
      refine PTriple.of_body (C := cx) Try.func31 rfl (by kernel_rfl) mixed fun E hE => ?_
      repeat' (conv => whnf); first
       | (refine bcase_of (fun hr => ?_) (fun hr => ?_) <;> (try simp [h0, e0] at hr))
       | (apply And.intro; · first | exact Nat.le_of_ble_eq_true rfl | (show indep _ _ = true; kernel_rfl) | decide | exact of_decide_eq_true rfl | exact allOne_of rfl | exact pure_of rfl | exact ⟨Nat.le_of_ble_eq_true rfl, Nat.le_of_ble_eq_true rfl⟩ | exact ⟨Nat.le_of_ble_eq_true rfl, (fun h => by cases h), Nat.le_of_ble_eq_true rfl, Nat.le_of_ble_eq_true rfl⟩)
       | (apply Exists.intro; apply And.intro; · first | exact rfl)
       | refine VLoop.unroll hE mixed ?_
       | fail
      all_goals (conv => whnf)
      all_goals rfl
  case pos =>
    by_cases h1 : b.1 < k
    case neg =>
      by_cases e1 : b.1 = k
      case pos =>
        have e : lay [a, b, c, d] k v = [a, (k, v), c, d] := by simp [lay, h0, h1, e1]
        rw [e]
        clear e
        refine PTriple.of_body (C := cx) Try.func31 rfl (by kernel_rfl) mixed fun E hE => ?_
        repeat' (conv => whnf); first
         | (refine bcase_of (fun hr => ?_) (fun hr => ?_) <;> (try simp [h0, h1, e1] at hr))
         | (apply And.intro; · first | exact Nat.le_of_ble_eq_true rfl | (show indep _ _ = true; kernel_rfl) | decide | exact of_decide_eq_true rfl | exact allOne_of rfl | exact pure_of rfl | exact ⟨Nat.le_of_ble_eq_true rfl, Nat.le_of_ble_eq_true rfl⟩ | exact ⟨Nat.le_of_ble_eq_true rfl, (fun h => by cases h), Nat.le_of_ble_eq_true rfl, Nat.le_of_ble_eq_true rfl⟩)
         | (apply Exists.intro; apply And.intro; · first | exact rfl)
         | refine VLoop.unroll hE mixed ?_
         | fail
        all_goals (conv => whnf)
        all_goals rfl
      case neg =>
        have e : lay [a, b, c, d] k v = [a, (k, v), b, c, d] := by simp [lay, h0, h1, e1]
        rw [e]
        clear e
        refine PTriple.of_body (C := cx) Try.func31 rfl (by kernel_rfl) mixed fun E hE => ?_
        repeat' (conv => whnf); first
         | (refine bcase_of (fun hr => ?_) (fun hr => ?_) <;> (try simp [h0, h1, e1] at hr))
         | (apply And.intro; · first | exact Nat.le_of_ble_eq_true rfl | (show indep _ _ = true; kernel_rfl) | decide | exact of_decide_eq_true rfl | exact allOne_of rfl | exact pure_of rfl | exact ⟨Nat.le_of_ble_eq_true rfl, Nat.le_of_ble_eq_true rfl⟩ | exact ⟨Nat.le_of_ble_eq_true rfl, (fun h => by cases h), Nat.le_of_ble_eq_true rfl, Nat.le_of_ble_eq_true rfl⟩)
         | (apply Exists.intro; apply And.intro; · first | exact rfl)
         | refine VLoop.unroll hE mixed ?_
         | fail
        all_goals (conv => whnf)
        all_goals rfl
    case pos =>
      by_cases h2 : c.1 < k
      case neg =>
        by_cases e2 : c.1 = k
        case pos =>
          have e : lay [a, b, c, d] k v = [a, b, (k, v), d] := by simp [lay, h0, h1, h2, e2]
          rw [e]
          clear e
          refine PTriple.of_body (C := cx) Try.func31 rfl (by kernel_rfl) mixed fun E hE => ?_
          repeat' (conv => whnf); first
           | (refine bcase_of (fun hr => ?_) (fun hr => ?_) <;> (try simp [h0, h1, h2, e2] at hr))
           | (apply And.intro; · first | exact Nat.le_of_ble_eq_true rfl | (show indep _ _ = true; kernel_rfl) | decide | exact of_decide_eq_true rfl | exact allOne_of rfl | exact pure_of rfl | exact ⟨Nat.le_of_ble_eq_true rfl, Nat.le_of_ble_eq_true rfl⟩ | exact ⟨Nat.le_of_ble_eq_true rfl, (fun h => by cases h), Nat.le_of_ble_eq_true rfl, Nat.le_of_ble_eq_true rfl⟩)
           | (apply Exists.intro; apply And.intro; · first | exact rfl)
           | refine VLoop.unroll hE mixed ?_
           | fail
          all_goals (conv => whnf)
          all_goals rfl
        case neg =>
          have e : lay [a, b, c, d] k v = [a, b, (k, v), c, d] := by simp [lay, h0, h1, h2, e2]
          rw [e]
          clear e
          refine PTriple.of_body (C := cx) Try.func31 rfl (by kernel_rfl) mixed fun E hE => ?_
          repeat' (conv => whnf); first
           | (refine bcase_of (fun hr => ?_) (fun hr => ?_) <;> (try simp [h0, h1, h2, e2] at hr))
           | (apply And.intro; · first | exact Nat.le_of_ble_eq_true rfl | (show indep _ _ = true; kernel_rfl) | decide | exact of_decide_eq_true rfl | exact allOne_of rfl | exact pure_of rfl | exact ⟨Nat.le_of_ble_eq_true rfl, Nat.le_of_ble_eq_true rfl⟩ | exact ⟨Nat.le_of_ble_eq_true rfl, (fun h => by cases h), Nat.le_of_ble_eq_true rfl, Nat.le_of_ble_eq_true rfl⟩)
           | (apply Exists.intro; apply And.intro; · first | exact rfl)
           | refine VLoop.unroll hE mixed ?_
           | fail
          all_goals (conv => whnf)
          all_goals rfl
      case pos =>
        by_cases h3 : d.1 < k
        case neg =>
          by_cases e3 : d.1 = k
          case pos =>
            have e : lay [a, b, c, d] k v = [a, b, c, (k, v)] := by simp [lay, h0, h1, h2, h3, e3]
            rw [e]
            clear e
            refine PTriple.of_body (C := cx) Try.func31 rfl (by kernel_rfl) mixed fun E hE => ?_
            repeat' (conv => whnf); first
             | (refine bcase_of (fun hr => ?_) (fun hr => ?_) <;> (try simp [h0, h1, h2, h3, e3] at hr))
             | (apply And.intro; · first | exact Nat.le_of_ble_eq_true rfl | (show indep _ _ = true; kernel_rfl) | decide | exact of_decide_eq_true rfl | exact allOne_of rfl | exact pure_of rfl | exact ⟨Nat.le_of_ble_eq_true rfl, Nat.le_of_ble_eq_true rfl⟩ | exact ⟨Nat.le_of_ble_eq_true rfl, (fun h => by cases h), Nat.le_of_ble_eq_true rfl, Nat.le_of_ble_eq_true rfl⟩)
             | (apply Exists.intro; apply And.intro; · first | exact rfl)
             | refine VLoop.unroll hE mixed ?_
             | fail
            all_goals (conv => whnf)
            all_goals rfl
          case neg =>
            have e : lay [a, b, c, d] k v = [a, b, c, (k, v), d] := by simp [lay, h0, h1, h2, h3, e3]
            rw [e]
            clear e
            refine PTriple.of_body (C := cx) Try.func31 rfl (by kernel_rfl) mixed fun E hE => ?_
            repeat' (conv => whnf); first
             | (refine bcase_of (fun hr => ?_) (fun hr => ?_) <;> (try simp [h0, h1, h2, h3, e3] at hr))
             | (apply And.intro; · first | exact Nat.le_of_ble_eq_true rfl | (show indep _ _ = true; kernel_rfl) | decide | exact of_decide_eq_true rfl | exact allOne_of rfl | exact pure_of rfl | exact ⟨Nat.le_of_ble_eq_true rfl, Nat.le_of_ble_eq_true rfl⟩ | exact ⟨Nat.le_of_ble_eq_true rfl, (fun h => by cases h), Nat.le_of_ble_eq_true rfl, Nat.le_of_ble_eq_true rfl⟩)
             | (apply Exists.intro; apply And.intro; · first | exact rfl)
             | refine VLoop.unroll hE mixed ?_
             | fail
            all_goals (conv => whnf)
            all_goals rfl
        case pos =>
          have e : lay [a, b, c, d] k v = [a, b, c, d, (k, v)] := by simp [lay, h0, h1, h2, h3]
          rw [e]
          clear e
          refine PTriple.of_body (C := cx) Try.func31 rfl (by kernel_rfl) mixed fun E hE => ?_
          repeat' (conv => whnf); first
           | (refine bcase_of (fun hr => ?_) (fun hr => ?_) <;> (try simp [h0, h1, h2, h3] at hr))
           | (apply And.intro; · first | exact Nat.le_of_ble_eq_true rfl | (show indep _ _ = true; kernel_rfl) | decide | exact of_decide_eq_true rfl | exact allOne_of rfl | exact pure_of rfl | exact ⟨Nat.le_of_ble_eq_true rfl, Nat.le_of_ble_eq_true rfl⟩ | exact ⟨Nat.le_of_ble_eq_true rfl, (fun h => by cases h), Nat.le_of_ble_eq_true rfl, Nat.le_of_ble_eq_true rfl⟩)
           | (apply Exists.intro; apply And.intro; · first | exact rfl)
           | refine VLoop.unroll hE mixed ?_
           | fail
          all_goals (conv => whnf)
          all_goals rfl
theorem rlay_5 (a b c d e : Int × Int) (k v : Int) : PTriple Try.prog gv 31 [pV [a, b, c, d, e], u32V k, i64V v] (pV (lay [a, b, c, d, e] k v)) := by
  by_cases h0 : a.1 < k
  case neg =>
    by_cases e0 : a.1 = k
    case pos =>
      have e : lay [a, b, c, d, e] k v = [(k, v), b, c, d, e] := by simp [lay, h0, e0]
      rw [e]
      clear e
      refine PTriple.of_body (C := cx) Try.func31 rfl (by kernel_rfl) mixed fun E hE => ?_
      repeat' (conv => whnf); first
       | (refine bcase_of (fun hr => ?_) (fun hr => ?_) <;> (try simp [h0, e0] at hr))
       | (apply And.intro; · first | exact Nat.le_of_ble_eq_true rfl | (show indep _ _ = true; kernel_rfl) | decide | exact of_decide_eq_true rfl | exact allOne_of rfl | exact pure_of rfl | exact ⟨Nat.le_of_ble_eq_true rfl, Nat.le_of_ble_eq_true rfl⟩ | exact ⟨Nat.le_of_ble_eq_true rfl, (fun h => by cases h), Nat.le_of_ble_eq_true rfl, Nat.le_of_ble_eq_true rfl⟩)
       | (apply Exists.intro; apply And.intro; · first | exact rfl)
       | refine VLoop.unroll hE mixed ?_
       | fail
      all_goals (conv => whnf)
      all_goals rfl
    case neg =>
      have e : lay [a, b, c, d, e] k v = [(k, v), a, b, c, d, e] := by simp [lay, h0, e0]
      rw [e]
      clear e
      refine PTriple.of_body (C := cx) Try.func31 rfl (by kernel_rfl) mixed fun E hE => ?_
      repeat' (conv => whnf); first
       | (refine bcase_of (fun hr => ?_) (fun hr => ?_) <;> (try simp [h0, e0] at hr))
       | (apply And.intro; · first | exact Nat.le_of_ble_eq_true rfl | (show indep _ _ = true; kernel_rfl) | decide | exact of_decide_eq_true rfl | exact allOne_of rfl | exact pure_of rfl | exact ⟨Nat.le_of_ble_eq_true rfl, Nat.le_of_ble_eq_true rfl⟩ | exact ⟨Nat.le_of_ble_eq_true rfl, (fun h => by cases h), Nat.le_of_ble_eq_true rfl, Nat.le_of_ble_eq_true rfl⟩)
       | (apply Exists.intro; apply And.intro; · first | exact rfl)
       | refine VLoop.unroll hE mixed ?_
       | fail
      all_goals (conv => whnf)
      all_goals rfl
  case pos =>
    by_cases h1 : b.1 < k
    case neg =>
      by_cases e1 : b.1 = k
      case pos =>
        have e : lay [a, b, c, d, e] k v = [a, (k, v), c, d, e] := by simp [lay, h0, h1, e1]
        rw [e]
        clear e
        refine PTriple.of_body (C := cx) Try.func31 rfl (by kernel_rfl) mixed fun E hE => ?_
        repeat' (conv => whnf); first
         | (refine bcase_of (fun hr => ?_) (fun hr => ?_) <;> (try simp [h0, h1, e1] at hr))
         | (apply And.intro; · first | exact Nat.le_of_ble_eq_true rfl | (show indep _ _ = true; kernel_rfl) | decide | exact of_decide_eq_true rfl | exact allOne_of rfl | exact pure_of rfl | exact ⟨Nat.le_of_ble_eq_true rfl, Nat.le_of_ble_eq_true rfl⟩ | exact ⟨Nat.le_of_ble_eq_true rfl, (fun h => by cases h), Nat.le_of_ble_eq_true rfl, Nat.le_of_ble_eq_true rfl⟩)
         | (apply Exists.intro; apply And.intro; · first | exact rfl)
         | refine VLoop.unroll hE mixed ?_
         | fail
        all_goals (conv => whnf)
        all_goals rfl
      case neg =>
        have e : lay [a, b, c, d, e] k v = [a, (k, v), b, c, d, e] := by simp [lay, h0, h1, e1]
        rw [e]
        clear e
        refine PTriple.of_body (C := cx) Try.func31 rfl (by kernel_rfl) mixed fun E hE => ?_
        repeat' (conv => whnf); first
         | (refine bcase_of (fun hr => ?_) (fun hr => ?_) <;> (try simp [h0, h1, e1] at hr))
         | (apply And.intro; · first | exact Nat.le_of_ble_eq_true rfl | (show indep _ _ = true; kernel_rfl) | decide | exact of_decide_eq_true rfl | exact allOne_of rfl | exact pure_of rfl | exact ⟨Nat.le_of_ble_eq_true rfl, Nat.le_of_ble_eq_true rfl⟩ | exact ⟨Nat.le_of_ble_eq_true rfl, (fun h => by cases h), Nat.le_of_ble_eq_true rfl, Nat.le_of_ble_eq_true rfl⟩)
         | (apply Exists.intro; apply And.intro; · first | exact rfl)
         | refine VLoop.unroll hE mixed ?_
         | fail
        all_goals (conv => whnf)
        all_goals rfl
    case pos =>
      by_cases h2 : c.1 < k
      case neg =>
        by_cases e2 : c.1 = k
        case pos =>
          have e : lay [a, b, c, d, e] k v = [a, b, (k, v), d, e] := by simp [lay, h0, h1, h2, e2]
          rw [e]
          clear e
          refine PTriple.of_body (C := cx) Try.func31 rfl (by kernel_rfl) mixed fun E hE => ?_
          repeat' (conv => whnf); first
           | (refine bcase_of (fun hr => ?_) (fun hr => ?_) <;> (try simp [h0, h1, h2, e2] at hr))
           | (apply And.intro; · first | exact Nat.le_of_ble_eq_true rfl | (show indep _ _ = true; kernel_rfl) | decide | exact of_decide_eq_true rfl | exact allOne_of rfl | exact pure_of rfl | exact ⟨Nat.le_of_ble_eq_true rfl, Nat.le_of_ble_eq_true rfl⟩ | exact ⟨Nat.le_of_ble_eq_true rfl, (fun h => by cases h), Nat.le_of_ble_eq_true rfl, Nat.le_of_ble_eq_true rfl⟩)
           | (apply Exists.intro; apply And.intro; · first | exact rfl)
           | refine VLoop.unroll hE mixed ?_
           | fail
          all_goals (conv => whnf)
          all_goals rfl
        case neg =>
          have e : lay [a, b, c, d, e] k v = [a, b, (k, v), c, d, e] := by simp [lay, h0, h1, h2, e2]
          rw [e]
          clear e
          refine PTriple.of_body (C := cx) Try.func31 rfl (by kernel_rfl) mixed fun E hE => ?_
          repeat' (conv => whnf); first
           | (refine bcase_of (fun hr => ?_) (fun hr => ?_) <;> (try simp [h0, h1, h2, e2] at hr))
           | (apply And.intro; · first | exact Nat.le_of_ble_eq_true rfl | (show indep _ _ = true; kernel_rfl) | decide | exact of_decide_eq_true rfl | exact allOne_of rfl | exact pure_of rfl | exact ⟨Nat.le_of_ble_eq_true rfl, Nat.le_of_ble_eq_true rfl⟩ | exact ⟨Nat.le_of_ble_eq_true rfl, (fun h => by cases h), Nat.le_of_ble_eq_true rfl, Nat.le_of_ble_eq_true rfl⟩)
           | (apply Exists.intro; apply And.intro; · first | exact rfl)
           | refine VLoop.unroll hE mixed ?_
           | fail
          all_goals (conv => whnf)
          all_goals rfl
      case pos =>
        by_cases h3 : d.1 < k
        case neg =>
          by_cases e3 : d.1 = k
          case pos =>
            have e : lay [a, b, c, d, e] k v = [a, b, c, (k, v), e] := by simp [lay, h0, h1, h2, h3, e3]
            rw [e]
            clear e
            refine PTriple.of_body (C := cx) Try.func31 rfl (by kernel_rfl) mixed fun E hE => ?_
            repeat' (conv => whnf); first
             | (refine bcase_of (fun hr => ?_) (fun hr => ?_) <;> (try simp [h0, h1, h2, h3, e3] at hr))
             | (apply And.intro; · first | exact Nat.le_of_ble_eq_true rfl | (show indep _ _ = true; kernel_rfl) | decide | exact of_decide_eq_true rfl | exact allOne_of rfl | exact pure_of rfl | exact ⟨Nat.le_of_ble_eq_true rfl, Nat.le_of_ble_eq_true rfl⟩ | exact ⟨Nat.le_of_ble_eq_true rfl, (fun h => by cases h), Nat.le_of_ble_eq_true rfl, Nat.le_of_ble_eq_true rfl⟩)
             | (apply Exists.intro; apply And.intro; · first | exact rfl)
             | refine VLoop.unroll hE mixed ?_
             | fail
            all_goals (conv => whnf)
            all_goals rfl
          case neg =>
            have e : lay [a, b, c, d, e] k v = [a, b, c, (k, v), d, e] := by simp [lay, h0, h1, h2, h3, e3]
            rw [e]
            clear e
            refine PTriple.of_body (C := cx) Try.func31 rfl (by kernel_rfl) mixed fun E hE => ?_
            repeat' (conv => whnf); first
             | (refine bcase_of (fun hr => ?_) (fun hr => ?_) <;> (try simp [h0, h1, h2, h3, e3] at hr))
             | (apply And.intro; · first | exact Nat.le_of_ble_eq_true rfl | (show indep _ _ = true; kernel_rfl) | decide | exact of_decide_eq_true rfl | exact allOne_of rfl | exact pure_of rfl | exact ⟨Nat.le_of_ble_eq_true rfl, Nat.le_of_ble_eq_true rfl⟩ | exact ⟨Nat.le_of_ble_eq_true rfl, (fun h => by cases h), Nat.le_of_ble_eq_true rfl, Nat.le_of_ble_eq_true rfl⟩)
             | (apply Exists.intro; apply And.intro; · first | exact rfl)
             | refine VLoop.unroll hE mixed ?_
             | fail
            all_goals (conv => whnf)
            all_goals rfl
        case pos =>
          by_cases h4 : e.1 < k
          case neg =>
            by_cases e4 : e.1 = k
            case pos =>
              have e : lay [a, b, c, d, e] k v = [a, b, c, d, (k, v)] := by simp [lay, h0, h1, h2, h3, h4, e4]
              rw [e]
              clear e
              refine PTriple.of_body (C := cx) Try.func31 rfl (by kernel_rfl) mixed fun E hE => ?_
              repeat' (conv => whnf); first
               | (refine bcase_of (fun hr => ?_) (fun hr => ?_) <;> (try simp [h0, h1, h2, h3, h4, e4] at hr))
               | (apply And.intro; · first | exact Nat.le_of_ble_eq_true rfl | (show indep _ _ = true; kernel_rfl) | decide | exact of_decide_eq_true rfl | exact allOne_of rfl | exact pure_of rfl | exact ⟨Nat.le_of_ble_eq_true rfl, Nat.le_of_ble_eq_true rfl⟩ | exact ⟨Nat.le_of_ble_eq_true rfl, (fun h => by cases h), Nat.le_of_ble_eq_true rfl, Nat.le_of_ble_eq_true rfl⟩)
               | (apply Exists.intro; apply And.intro; · first | exact rfl)
               | refine VLoop.unroll hE mixed ?_
               | fail
              all_goals (conv => whnf)
              all_goals rfl
            case neg =>
              have e : lay [a, b, c, d, e] k v = [a, b, c, d, (k, v), e] := by simp [lay, h0, h1, h2, h3, h4, e4]
              rw [e]
              clear e
              refine PTriple.of_body (C := cx) Try.func31 rfl (by kernel_rfl) mixed fun E hE => ?_
              repeat' (conv => whnf); first
               | (refine bcase_of (fun hr => ?_) (fun hr => ?_) <;> (try simp [h0, h1, h2, h3, h4, e4] at hr))
               | (apply And.intro; · first | exact Nat.le_of_ble_eq_true rfl | (show indep _ _ = true; kernel_rfl) | decide | exact of_decide_eq_true rfl | exact allOne_of rfl | exact pure_of rfl | exact ⟨Nat.le_of_ble_eq_true rfl, Nat.le_of_ble_eq_true rfl⟩ | exact ⟨Nat.le_of_ble_eq_true rfl, (fun h => by cases h), Nat.le_of_ble_eq_true rfl, Nat.le_of_ble_eq_true rfl⟩)
               | (apply Exists.intro; apply And.intro; · first | exact rfl)
               | refine VLoop.unroll hE mixed ?_
               | fail
              all_goals (conv => whnf)
              all_goals rfl
          case pos =>
            have e : lay [a, b, c, d, e] k v = [a, b, c, d, e, (k, v)] := by simp [lay, h0, h1, h2, h3, h4]
            rw [e]
            clear e
            refine PTriple.of_body (C := cx) Try.func31 rfl (by kernel_rfl) mixed fun E hE => ?_
            repeat' (conv => whnf); first
             | (refine bcase_of (fun hr => ?_) (fun hr => ?_) <;> (try simp [h0, h1, h2, h3, h4] at hr))
             | (apply And.intro; · first | exact Nat.le_of_ble_eq_true rfl | (show indep _ _ = true; kernel_rfl) | decide | exact of_decide_eq_true rfl | exact allOne_of rfl | exact pure_of rfl | exact ⟨Nat.le_of_ble_eq_true rfl, Nat.le_of_ble_eq_true rfl⟩ | exact ⟨Nat.le_of_ble_eq_true rfl, (fun h => by cases h), Nat.le_of_ble_eq_true rfl, Nat.le_of_ble_eq_true rfl⟩)
             | (apply Exists.intro; apply And.intro; · first | exact rfl)
             | refine VLoop.unroll hE mixed ?_
             | fail
            all_goals (conv => whnf)
            all_goals rfl
theorem rlay_6 (a b c d e f : Int × Int) (k v : Int) : PTriple Try.prog gv 31 [pV [a, b, c, d, e, f], u32V k, i64V v] (pV (lay [a, b, c, d, e, f] k v)) := by
  by_cases h0 : a.1 < k
  case neg =>
    by_cases e0 : a.1 = k
    case pos =>
      have e : lay [a, b, c, d, e, f] k v = [(k, v), b, c, d, e, f] := by simp [lay, h0, e0]
      rw [e]
      clear e
      refine PTriple.of_body (C := cx) Try.func31 rfl (by kernel_rfl) mixed fun E hE => ?_
      repeat' (conv => whnf); first
       | (refine bcase_of (fun hr => ?_) (fun hr => ?_) <;> (try simp [h0, e0] at hr))
       | (apply And.intro; · first | exact Nat.le_of_ble_eq_true rfl | (show indep _ _ = true; kernel_rfl) | decide | exact of_decide_eq_true rfl | exact allOne_of rfl | exact pure_of rfl | exact ⟨Nat.le_of_ble_eq_true rfl, Nat.le_of_ble_eq_true rfl⟩ | exact ⟨Nat.le_of_ble_eq_true rfl, (fun h => by cases h), Nat.le_of_ble_eq_true rfl, Nat.le_of_ble_eq_true rfl⟩)
       | (apply Exists.intro; apply And.intro; · first | exact rfl)
       | refine VLoop.unroll hE mixed ?_
       | fail
      all_goals (conv => whnf)
      all_goals rfl
    case neg =>
      have e : lay [a, b, c, d, e, f] k v = [(k, v), a, b, c, d, e, f] := by simp [lay, h0, e0]
      rw [e]
      clear e
      refine PTriple.of_body (C := cx) Try.func31 rfl (by kernel_rfl) mixed fun E hE => ?_
      repeat' (conv => whnf); first
       | (refine bcase_of (fun hr => ?_) (fun hr => ?_) <;> (try simp [h0, e0] at hr))
       | (apply And.intro; · first | exact Nat.le_of_ble_eq_true rfl | (show indep _ _ = true; kernel_rfl) | decide | exact of_decide_eq_true rfl | exact allOne_of rfl | exact pure_of rfl | exact ⟨Nat.le_of_ble_eq_true rfl, Nat.le_of_ble_eq_true rfl⟩ | exact ⟨Nat.le_of_ble_eq_true rfl, (fun h => by cases h), Nat.le_of_ble_eq_true rfl, Nat.le_of_ble_eq_true rfl⟩)
       | (apply Exists.intro; apply And.intro; · first | exact rfl)
       | refine VLoop.unroll hE mixed ?_
       | fail
      all_goals (conv => whnf)
      all_goals rfl
  case pos =>
    by_cases h1 : b.1 < k
    case neg =>
      by_cases e1 : b.1 = k
      case pos =>
        have e : lay [a, b, c, d, e, f] k v = [a, (k, v), c, d, e, f] := by simp [lay, h0, h1, e1]
        rw [e]
        clear e
        refine PTriple.of_body (C := cx) Try.func31 rfl (by kernel_rfl) mixed fun E hE => ?_
        repeat' (conv => whnf); first
         | (refine bcase_of (fun hr => ?_) (fun hr => ?_) <;> (try simp [h0, h1, e1] at hr))
         | (apply And.intro; · first | exact Nat.le_of_ble_eq_true rfl | (show indep _ _ = true; kernel_rfl) | decide | exact of_decide_eq_true rfl | exact allOne_of rfl | exact pure_of rfl | exact ⟨Nat.le_of_ble_eq_true rfl, Nat.le_of_ble_eq_true rfl⟩ | exact ⟨Nat.le_of_ble_eq_true rfl, (fun h => by cases h), Nat.le_of_ble_eq_true rfl, Nat.le_of_ble_eq_true rfl⟩)
         | (apply Exists.intro; apply And.intro; · first | exact rfl)
         | refine VLoop.unroll hE mixed ?_
         | fail
        all_goals (conv => whnf)
        all_goals rfl
      case neg =>
        have e : lay [a, b, c, d, e, f] k v = [a, (k, v), b, c, d, e, f] := by simp [lay, h0, h1, e1]
        rw [e]
        clear e
        refine PTriple.of_body (C := cx) Try.func31 rfl (by kernel_rfl) mixed fun E hE => ?_
        repeat' (conv => whnf); first
         | (refine bcase_of (fun hr => ?_) (fun hr => ?_) <;> (try simp [h0, h1, e1] at hr))
         | (apply And.intro; · first | exact Nat.le_of_ble_eq_true rfl | (show indep _ _ = true; kernel_rfl) | decide | exact of_decide_eq_true rfl | exact allOne_of rfl | exact pure_of rfl | exact ⟨Nat.le_of_ble_eq_true rfl, Nat.le_of_ble_eq_true rfl⟩ | exact ⟨Nat.le_of_ble_eq_true rfl, (fun h => by cases h), Nat.le_of_ble_eq_true rfl, Nat.le_of_ble_eq_true rfl⟩)
         | (apply Exists.intro; apply And.intro; · first | exact rfl)
         | refine VLoop.unroll hE mixed ?_
         | fail
        all_goals (conv => whnf)
        all_goals rfl
    case pos =>
      by_cases h2 : c.1 < k
      case neg =>
        by_cases e2 : c.1 = k
        case pos =>
          have e : lay [a, b, c, d, e, f] k v = [a, b, (k, v), d, e, f] := by simp [lay, h0, h1, h2, e2]
          rw [e]
          clear e
          refine PTriple.of_body (C := cx) Try.func31 rfl (by kernel_rfl) mixed fun E hE => ?_
          repeat' (conv => whnf); first
           | (refine bcase_of (fun hr => ?_) (fun hr => ?_) <;> (try simp [h0, h1, h2, e2] at hr))
           | (apply And.intro; · first | exact Nat.le_of_ble_eq_true rfl | (show indep _ _ = true; kernel_rfl) | decide | exact of_decide_eq_true rfl | exact allOne_of rfl | exact pure_of rfl | exact ⟨Nat.le_of_ble_eq_true rfl, Nat.le_of_ble_eq_true rfl⟩ | exact ⟨Nat.le_of_ble_eq_true rfl, (fun h => by cases h), Nat.le_of_ble_eq_true rfl, Nat.le_of_ble_eq_true rfl⟩)
           | (apply Exists.intro; apply And.intro; · first | exact rfl)
           | refine VLoop.unroll hE mixed ?_
           | fail
          all_goals (conv => whnf)
          all_goals rfl
        case neg =>
          have e : lay [a, b, c, d, e, f] k v = [a, b, (k, v), c, d, e, f] := by simp [lay, h0, h1, h2, e2]
          rw [e]
          clear e
          refine PTriple.of_body (C := cx) Try.func31 rfl (by kernel_rfl) mixed fun E hE => ?_
          repeat' (conv => whnf); first
           | (refine bcase_of (fun hr => ?_) (fun hr => ?_) <;> (try simp [h0, h1, h2, e2] at hr))
           | (apply And.intro; · first | exact Nat.le_of_ble_eq_true rfl | (show indep _ _ = true; kernel_rfl) | decide | exact of_decide_eq_true rfl | exact allOne_of rfl | exact pure_of rfl | exact ⟨Nat.le_of_ble_eq_true rfl, Nat.le_of_ble_eq_true rfl⟩ | exact ⟨Nat.le_of_ble_eq_true rfl, (fun h => by cases h), Nat.le_of_ble_eq_true rfl, Nat.le_of_ble_eq_true rfl⟩)
           | (apply Exists.intro; apply And.intro; · first | exact rfl)
           | refine VLoop.unroll hE mixed ?_
           | fail
          all_goals (conv => whnf)
          all_goals rfl
      case pos =>
        by_cases h3 : d.1 < k
        case neg =>
          by_cases e3 : d.1 = k
          case pos =>
            have e : lay [a, b, c, d, e, f] k v = [a, b, c, (k, v), e, f] := by simp [lay, h0, h1, h2, h3, e3]
            rw [e]
            clear e
            refine PTriple.of_body (C := cx) Try.func31 rfl (by kernel_rfl) mixed fun E hE => ?_
            repeat' (conv => whnf); first
             | (refine bcase_of (fun hr => ?_) (fun hr => ?_) <;> (try simp [h0, h1, h2, h3, e3] at hr))
             | (apply And.intro; · first | exact Nat.le_of_ble_eq_true rfl | (show indep _ _ = true; kernel_rfl) | decide | exact of_decide_eq_true rfl | exact allOne_of rfl | exact pure_of rfl | exact ⟨Nat.le_of_ble_eq_true rfl, Nat.le_of_ble_eq_true rfl⟩ | exact ⟨Nat.le_of_ble_eq_true rfl, (fun h => by cases h), Nat.le_of_ble_eq_true rfl, Nat.le_of_ble_eq_true rfl⟩)
             | (apply Exists.intro; apply And.intro; · first | exact rfl)
             | refine VLoop.unroll hE mixed ?_
             | fail
            all_goals (conv => whnf)
            all_goals rfl
          case neg =>
            have e : lay [a, b, c, d, e, f] k v = [a, b, c, (k, v), d, e, f] := by simp [lay, h0, h1, h2, h3, e3]
            rw [e]
            clear e
            refine PTriple.of_body (C := cx) Try.func31 rfl (by kernel_rfl) mixed fun E hE => ?_
            repeat' (conv => whnf); first
             | (refine bcase_of (fun hr => ?_) (fun hr => ?_) <;> (try simp [h0, h1, h2, h3, e3] at hr))
             | (apply And.intro; · first | exact Nat.le_of_ble_eq_true rfl | (show indep _ _ = true; kernel_rfl) | decide | exact of_decide_eq_true rfl | exact allOne_of rfl | exact pure_of rfl | exact ⟨Nat.le_of_ble_eq_true rfl, Nat.le_of_ble_eq_true rfl⟩ | exact ⟨Nat.le_of_ble_eq_true rfl, (fun h => by cases h), Nat.le_of_ble_eq_true rfl, Nat.le_of_ble_eq_true rfl⟩)
             | (apply Exists.intro; apply And.intro; · first | exact rfl)
             | refine VLoop.unroll hE mixed ?_
             | fail
            all_goals (conv => whnf)
            all_goals rfl
        case pos =>
          by_cases h4 : e.1 < k
          case neg =>
            by_cases e4 : e.1 = k
            case pos =>
              have e : lay [a, b, c, d, e, f] k v = [a, b, c, d, (k, v), f] := by simp [lay, h0, h1, h2, h3, h4, e4]
              rw [e]
              clear e
              refine PTriple.of_body (C := cx) Try.func31 rfl (by kernel_rfl) mixed fun E hE => ?_
              repeat' (conv => whnf); first
               | (refine bcase_of (fun hr => ?_) (fun hr => ?_) <;> (try simp [h0, h1, h2, h3, h4, e4] at hr))
               | (apply And.intro; · first | exact Nat.le_of_ble_eq_true rfl | (show indep _ _ = true; kernel_rfl) | decide | exact of_decide_eq_true rfl | exact allOne_of rfl | exact pure_of rfl | exact ⟨Nat.le_of_ble_eq_true rfl, Nat.le_of_ble_eq_true rfl⟩ | exact ⟨Nat.le_of_ble_eq_true rfl, (fun h => by cases h), Nat.le_of_ble_eq_true rfl, Nat.le_of_ble_eq_true rfl⟩)
               | (apply Exists.intro; apply And.intro; · first | exact rfl)
               | refine VLoop.unroll hE mixed ?_
               | fail
              all_goals (conv => whnf)
              all_goals rfl
            case neg =>
              have e : lay [a, b, c, d, e, f] k v = [a, b, c, d, (k, v), e, f] := by simp [lay, h0, h1, h2, h3, h4, e4]
              rw [e]
              clear e
              refine PTriple.of_body (C := cx) Try.func31 rfl (by kernel_rfl) mixed fun E hE => ?_
              repeat' (conv => whnf); first
               | (refine bcase_of (fun hr => ?_) (fun hr => ?_) <;> (try simp [h0, h1, h2, h3, h4, e4] at hr))
               | (apply And.intro; · first | exact Nat.le_of_ble_eq_true rfl | (show indep _ _ = true; kernel_rfl) | decide | exact of_decide_eq_true rfl | exact allOne_of rfl | exact pure_of rfl | exact ⟨Nat.le_of_ble_eq_true rfl, Nat.le_of_ble_eq_true rfl⟩ | exact ⟨Nat.le_of_ble_eq_true rfl, (fun h => by cases h), Nat.le_of_ble_eq_true rfl, Nat.le_of_ble_eq_true rfl⟩)
               | (apply Exists.intro; apply And.intro; · first | exact rfl)
               | refine VLoop.unroll hE mixed ?_
               | fail
              all_goals (conv => whnf)
              all_goals rfl
          case pos =>
            by_cases h5 : f.1 < k
            case neg =>
              by_cases e5 : f.1 = k
              case pos =>
                have e : lay [a, b, c, d, e, f] k v = [a, b, c, d, e, (k, v)] := by simp [lay, h0, h1, h2, h3, h4, h5, e5]
                rw [e]
                clear e
                refine PTriple.of_body (C := cx) Try.func31 rfl (by kernel_rfl) mixed fun E hE => ?_
                repeat' (conv => whnf); first
                 | (refine bcase_of (fun hr => ?_) (fun hr => ?_) <;> (try simp [h0, h1, h2, h3, h4, h5, e5] at hr))
                 | (apply And.intro; · first | exact Nat.le_of_ble_eq_true rfl | (show indep _ _ = true; kernel_rfl) | decide | exact of_decide_eq_true rfl | exact allOne_of rfl | exact pure_of rfl | exact ⟨Nat.le_of_ble_eq_true rfl, Nat.le_of_ble_eq_true rfl⟩ | exact ⟨Nat.le_of_ble_eq_true rfl, (fun h => by cases h), Nat.le_of_ble_eq_true rfl, Nat.le_of_ble_eq_true rfl⟩)
                 | (apply Exists.intro; apply And.intro; · first | exact rfl)
                 | refine VLoop.unroll hE mixed ?_
                 | fail
                all_goals (conv => whnf)
                all_goals rfl
              case neg =>
                have e : lay [a, b, c, d, e, f] k v = [a, b, c, d, e, (k, v), f] := by simp [lay, h0, h1, h2, h3, h4, h5, e5]
                rw [e]
                clear e
                refine PTriple.of_body (C := cx) Try.func31 rfl (by kernel_rfl) mixed fun E hE => ?_
                repeat' (conv => whnf); first
                 | (refine bcase_of (fun hr => ?_) (fun hr => ?_) <;> (try simp [h0, h1, h2, h3, h4, h5, e5] at hr))
                 | (apply And.intro; · first | exact Nat.le_of_ble_eq_true rfl | (show indep _ _ = true; kernel_rfl) | decide | exact of_decide_eq_true rfl | exact allOne_of rfl | exact pure_of rfl | exact ⟨Nat.le_of_ble_eq_true rfl, Nat.le_of_ble_eq_true rfl⟩ | exact ⟨Nat.le_of_ble_eq_true rfl, (fun h => by cases h), Nat.le_of_ble_eq_true rfl, Nat.le_of_ble_eq_true rfl⟩)
                 | (apply Exists.intro; apply And.intro; · first | exact rfl)
                 | refine VLoop.unroll hE mixed ?_
                 | fail
                all_goals (conv => whnf)
                all_goals rfl
            case pos =>
              have e : lay [a, b, c, d, e, f] k v = [a, b, c, d, e, f, (k, v)] := by simp [lay, h0, h1, h2, h3, h4, h5]
              rw [e]
              clear e
              refine PTriple.of_body (C := cx) Try.func31 rfl (by kernel_rfl) mixed fun E hE => ?_
              repeat' (conv => whnf); first
               | (refine bcase_of (fun hr => ?_) (fun hr => ?_) <;> (try simp [h0, h1, h2, h3, h4, h5] at hr))
               | (apply And.intro; · first | exact Nat.le_of_ble_eq_true rfl | (show indep _ _ = true; kernel_rfl) | decide | exact of_decide_eq_true rfl | exact allOne_of rfl | exact pure_of rfl | exact ⟨Nat.le_of_ble_eq_true rfl, Nat.le_of_ble_eq_true rfl⟩ | exact ⟨Nat.le_of_ble_eq_true rfl, (fun h => by cases h), Nat.le_of_ble_eq_true rfl, Nat.le_of_ble_eq_true rfl⟩)
               | (apply Exists.intro; apply And.intro; · first | exact rfl)
               | refine VLoop.unroll hE mixed ?_
               | fail
              all_goals (conv => whnf)
              all_goals rfl
theorem rlay_ok (l : List (Int × Int)) (hl : l.length ≤ 6) (k v : Int) : PTriple Try.prog gv 31 [pV l, u32V k, i64V v] (pV (lay l k v)) := by
  rcases len_cases (hl) with rfl | ⟨a, rfl⟩ | ⟨a, b, rfl⟩ | ⟨a, b, c, rfl⟩ | ⟨a, b, c, d, rfl⟩ | ⟨a, b, c, d, e, rfl⟩ | ⟨a, b, c, d, e, f, rfl⟩
  · exact rlay_0  k v
  · exact rlay_1 a k v
  · exact rlay_2 a b k v
  · exact rlay_3 a b c k v
  · exact rlay_4 a b c d k v
  · exact rlay_5 a b c d e k v
  · exact rlay_6 a b c d e f k v
end Go.Proofs.Ytbppemcdphgknaa.T
