/- Chapter 14: SlabApart. -/
import Derived.Test.YtbppemcdphgknaaSlW
set_option linter.unusedVariables false
set_option linter.unusedSimpArgs false
namespace Go.Proofs.Ytbppemcdphgknaa
open Go Go.Vm
set_option maxRecDepth 100000
set_option maxHeartbeats 40000000
set_option linter.unusedSimpArgs false
set_option linter.unusedVariables false
def stA1 (n a b : Int) (k i j x : Nat) : St DV := mkSt 148 [(0, u8V n), (1, u8V a), (2, u8V b), (7, i64V k), (8, i64V i), (9, i64V j), (10, .ref (35, 1) 0), (11, i64V x)] [(34, .abs (slF k x x (LA x)))] []
def stA2 (n a b : Int) (k i j x : Nat) : St DV := mkSt 148 [(0, u8V n), (1, u8V a), (2, u8V b), (7, i64V k), (8, i64V i), (9, i64V j), (10, .ref (35, 1) 0), (14, i64V x)] [(34, .abs (slF k ((k : Int) - 1) j (PG (gB k i j) (up8 k))))] []
theorem apart_ok (n a b : Int) (hn : 0 ≤ n ∧ n ≤ 255) (ha : 0 ≤ a ∧ a ≤ 255) (hb : 0 ≤ b ∧ b ≤ 255) : PTriple Try.prog gv 5 [u8V n, u8V a, u8V b] (.bool true) := by
  obtain ⟨m, rfl⟩ := Int.eq_ofNat_of_zero_le hn.1
  obtain ⟨a0, rfl⟩ := Int.eq_ofNat_of_zero_le ha.1
  obtain ⟨b0, rfl⟩ := Int.eq_ofNat_of_zero_le hb.1
  have e1 : ((m : Int).tmod 30) = ((m % 30 : Nat) : Int) := rfl
  obtain ⟨k, hk⟩ : ∃ k, k = 2 + m % 30 := ⟨_, rfl⟩
  have hk1 : 2 ≤ k ∧ k ≤ 31 := by omega
  have ek : IntKind.i64.wrap (2 + IntKind.i64.wrap ((m : Int).tmod 30)) = (k : Int) := by
    rw [e1, wrap64 (n := ((m % 30 : Nat) : Int)) (by omega) (by omega), wrap64 (by omega) (by omega)]; omega
  obtain ⟨i, hi⟩ : ∃ i, i = a0 % k := ⟨_, rfl⟩
  obtain ⟨j, hj⟩ : ∃ j, j = b0 % k := ⟨_, rfl⟩
  have hik : i < k := by rw [hi]; exact Nat.mod_lt _ (by omega)
  have hjk : j < k := by rw [hj]; exact Nat.mod_lt _ (by omega)
  have ei : (IntKind.i64.wrap (a0 : Int)).tmod (k : Int) = (i : Int) := by rw [wrap64 (by omega) (by omega), hi]; rfl
  have ej : (IntKind.i64.wrap (b0 : Int)).tmod (k : Int) = (j : Int) := by rw [wrap64 (by omega) (by omega), hj]; rfl
  clear hk hi hj e1
  have c0 := newF (k : Int)
  rw [capOf_small (r := (k : Int)) (by omega) (by omega)] at c0
  refine PTriple.of_body (C := cxL) Try.func5 rfl (by kernel_rfl) (mixedOf _) fun E hE => ?_
  repeat' (conv => whnf); first
   | (apply And.intro; · first | exact Nat.le_of_ble_eq_true rfl | (show indep _ _ = true; kernel_rfl) | decide | exact ⟨by omega, by decide⟩ | (show (k : Int) ≠ 0; omega) | exact ⟨by decide, by decide⟩ | exact ⟨Nat.le_of_ble_eq_true rfl, allOne_of rfl⟩)
   | (apply Exists.intro; apply And.intro; · first | exact rfl)
   | rw [ek]
   | (apply Exists.intro; apply Exists.intro; apply Exists.intro; apply And.intro; · first | (refine ATriple.callN (c0) ?_ ?_ ?_ <;> rfl))
   | fail
  all_goals (conv => whnf)
  refine VLoop.norm [0, 1, 2, 7, 8, 9, 10, 11] [34] ?_
  repeat' (conv => whnf); first
   | (apply And.intro; · first | exact Nat.le_of_ble_eq_true rfl | (show indep _ _ = true; kernel_rfl) | decide)
   | (apply Exists.intro; apply And.intro; · first | exact rfl)
   | fail
  refine VLoop.inv (fun x : Nat => stA1 m a0 b0 k i j x) (fun x => x ≤ k) (fun x => k - x) 0 (Nat.zero_le _) (by rw [stA1, ei, ej]; rfl) ?_
  intro x hx ih
  have hw : IntKind.i64.wrap ((x : Int) + 1) = ((x + 1 : Nat) : Int) := wrap64 (by omega) (by omega)
  refine VLoop.unroll hE (mixedOf _) ?_
  conv => whnf
  refine bcase_of (fun hr => ?_) (fun hr => ?_)
  case refine_1 =>
    have hmk : x < k := by have : (x : Int) < k := (by simpa using hr); omega
    have c1 := takeA k x (by omega) (by omega)
    have c2 := putA k x (by omega)
    repeat' (conv => whnf); first
     | (refine bcase_of (fun hr => ?_) (fun hr => ?_) <;> (try simp only [decide_eq_true_eq, decide_eq_false_iff_not, ge_iff_le, gt_iff_lt] at hr) <;> try (exfalso; first | omega | (simp at hr; done) | (simp at hr; omega) | (rw [hv] at hr; simp at hr; done) | (simp [*] at hr; done)))
     | (apply And.intro; · first | exact Nat.le_of_ble_eq_true rfl | (show indep _ _ = true; kernel_rfl) | decide | exact ⟨by decide, by decide⟩ | exact ⟨Nat.le_of_ble_eq_true rfl, allOne_of rfl⟩)
     | (apply Exists.intro; apply And.intro; · first | exact rfl)
     | rw [hw]
     | (apply Exists.intro; apply Exists.intro; apply Exists.intro; apply And.intro; · first | (refine ATriple.callN (c1) ?_ ?_ ?_ <;> rfl) | (refine ATriple.callN (c2) ?_ ?_ ?_ <;> rfl))
     | fail
    all_goals (conv => whnf)
    refine VLoop.norm [0, 1, 2, 7, 8, 9, 10, 11] [34] ?_
    repeat' (conv => whnf); first
     | (apply And.intro; · first | exact Nat.le_of_ble_eq_true rfl | (show indep _ _ = true; kernel_rfl) | decide)
     | (apply Exists.intro; apply And.intro; · first | exact rfl)
     | fail
    try rw [hw]
    exact ih (x + 1) (by omega) (by omega)
  case refine_2 =>
    obtain rfl : x = k := by
      have : ¬ ((x : Int) < k) := by simpa using hr
      omega
    clear ih hw ek ei ej
    obtain ⟨c1, i1⟩ := put0A x i (by omega) hik
    obtain ⟨c2, i2⟩ := freeA x i j (by omega) hjk i1
    obtain ⟨c3, i3⟩ := takeB x i j (by omega) hjk i2
    have c4 := getC x i j (by omega) hjk i3
    have c5 := lenF (x : Int) x ((j : Int) + 1) (PG (gC x i j) (up8 x))
    repeat' (conv => whnf); first
     | (refine bcase_of (fun hr => ?_) (fun hr => ?_) <;> (try simp only [decide_eq_true_eq, decide_eq_false_iff_not, ge_iff_le, gt_iff_lt] at hr) <;> try (exfalso; first | omega | (simp at hr; done) | (simp at hr; omega) | (rw [hv] at hr; simp at hr; done) | (simp [*] at hr; done)))
     | (apply And.intro; · first | exact Nat.le_of_ble_eq_true rfl | (show indep _ _ = true; kernel_rfl) | decide | exact ⟨by decide, by decide⟩ | exact ⟨Nat.le_of_ble_eq_true rfl, allOne_of rfl⟩)
     | (apply Exists.intro; apply And.intro; · first | exact rfl)
     | (apply Exists.intro; apply Exists.intro; apply Exists.intro; apply And.intro; · first | (refine ATriple.callN (c1) ?_ ?_ ?_ <;> rfl) | (refine ATriple.callN (c2) ?_ ?_ ?_ <;> rfl))
     | fail
    all_goals (conv => whnf)
    refine VLoop.norm [0, 1, 2, 7, 8, 9, 10, 14] [34] ?_
    repeat' (conv => whnf); first
     | (apply And.intro; · first | exact Nat.le_of_ble_eq_true rfl | (show indep _ _ = true; kernel_rfl) | decide)
     | (apply Exists.intro; apply And.intro; · first | exact rfl)
     | fail
    refine VLoop.inv (fun y : Nat => stA2 m a0 b0 x i j y) (fun y => y ≤ x) (fun y => x - y) 0 (Nat.zero_le _) rfl ?_
    intro y hy ih
    have hw : IntKind.i64.wrap ((y : Int) + 1) = ((y + 1 : Nat) : Int) := wrap64 (by omega) (by omega)
    refine VLoop.unroll hE (mixedOf _) ?_
    by_cases hyx : y < x
    case pos =>
      have cG := getA x i j y hyx i2
      by_cases q1 : y = j
      case pos =>
        rw [if_pos q1] at cG
        have q3 : (y : Int) = j := by omega
        repeat' (conv => whnf); first
         | (refine bcase_of (fun hr => ?_) (fun hr => ?_) <;> (try simp only [decide_eq_true_eq, decide_eq_false_iff_not, ge_iff_le, gt_iff_lt] at hr) <;> try (exfalso; first | omega | (simp at hr; done) | (simp at hr; omega) | (rw [hv] at hr; simp at hr; done) | (simp [*] at hr; done)))
         | (apply And.intro; · first | exact Nat.le_of_ble_eq_true rfl | (show indep _ _ = true; kernel_rfl) | decide | exact ⟨by decide, by decide⟩ | exact ⟨Nat.le_of_ble_eq_true rfl, allOne_of rfl⟩)
         | (apply Exists.intro; apply And.intro; · first | exact rfl)
         | rw [hw]
         | (apply Exists.intro; apply Exists.intro; apply Exists.intro; apply And.intro; · first | (refine ATriple.callN (cG) ?_ ?_ ?_ <;> rfl))
         | fail
        all_goals (conv => whnf)
        all_goals refine VLoop.norm [0, 1, 2, 7, 8, 9, 10, 14] [34] ?_
        repeat' (conv => whnf); first
         | (apply And.intro; · first | exact Nat.le_of_ble_eq_true rfl | (show indep _ _ = true; kernel_rfl) | decide)
         | (apply Exists.intro; apply And.intro; · first | exact rfl)
         | fail
        all_goals (try rw [hw])
        all_goals exact ih (y + 1) (by omega) (by omega)
      case neg =>
        rw [if_neg q1] at cG
        have q3 : ¬ (y : Int) = j := by omega
        by_cases q2 : y = i
        case pos =>
          rw [if_pos q2] at cG
          have q4 : (y : Int) = i := by omega
          repeat' (conv => whnf); first
           | (refine bcase_of (fun hr => ?_) (fun hr => ?_) <;> (try simp only [decide_eq_true_eq, decide_eq_false_iff_not, ge_iff_le, gt_iff_lt] at hr) <;> try (exfalso; first | omega | (simp at hr; done) | (simp at hr; omega) | (rw [hv] at hr; simp at hr; done) | (simp [*] at hr; done)))
           | (apply And.intro; · first | exact Nat.le_of_ble_eq_true rfl | (show indep _ _ = true; kernel_rfl) | decide | exact pure_E _ | exact ⟨by decide, by decide⟩ | exact ⟨Nat.le_of_ble_eq_true rfl, allOne_of rfl⟩)
           | (apply Exists.intro; apply And.intro; · first | exact rfl)
           | rw [hw]
           | (apply Exists.intro; apply Exists.intro; apply Exists.intro; apply And.intro; · first | (refine ATriple.callN (cG) ?_ ?_ ?_ <;> rfl))
           | fail
          all_goals (conv => whnf)
          all_goals refine VLoop.norm [0, 1, 2, 7, 8, 9, 10, 14] [34] ?_
          repeat' (conv => whnf); first
           | (apply And.intro; · first | exact Nat.le_of_ble_eq_true rfl | (show indep _ _ = true; kernel_rfl) | decide)
           | (apply Exists.intro; apply And.intro; · first | exact rfl)
           | fail
          all_goals (try rw [hw])
          all_goals exact ih (y + 1) (by omega) (by omega)
        case neg =>
          rw [if_neg q2] at cG
          have q4 : ¬ (y : Int) = i := by omega
          have pE := pure_E [enX (y + 1)]
          have hv : (enX (y + 1)).v = IntKind.i64.wrap ((y : Int) + 1) := hw.symm
          have h01 : (0 : Int) ≤ 0 ∧ (0 : Int) < (([enX (y + 1)].map encE).length : Int) := ⟨Int.le_refl _, by simp⟩
          repeat' (conv => whnf); first
           | (refine bcase_of (fun hr => ?_) (fun hr => ?_) <;> (try simp only [decide_eq_true_eq, decide_eq_false_iff_not, ge_iff_le, gt_iff_lt] at hr) <;> try (exfalso; first | omega | (simp at hr; done) | (simp at hr; omega) | (rw [hv] at hr; simp at hr; done) | (simp [*] at hr; done)))
           | (apply And.intro; · first | exact Nat.le_of_ble_eq_true rfl | (show indep _ _ = true; kernel_rfl) | decide | exact pE | exact h01 | exact ⟨by decide, by decide⟩ | exact ⟨Nat.le_of_ble_eq_true rfl, allOne_of rfl⟩)
           | (apply Exists.intro; apply And.intro; · first | exact rfl)
           | rw [hw]
           | (apply Exists.intro; apply Exists.intro; apply Exists.intro; apply And.intro; · first | (refine ATriple.callN (cG) ?_ ?_ ?_ <;> rfl))
           | fail
          all_goals (conv => whnf)
          all_goals refine VLoop.norm [0, 1, 2, 7, 8, 9, 10, 14] [34] ?_
          repeat' (conv => whnf); first
           | (apply And.intro; · first | exact Nat.le_of_ble_eq_true rfl | (show indep _ _ = true; kernel_rfl) | decide)
           | (apply Exists.intro; apply And.intro; · first | exact rfl)
           | fail
          all_goals (try rw [hw])
          all_goals exact ih (y + 1) (by omega) (by omega)
    case neg =>
      obtain rfl : y = x := by omega
      clear ih hw
      repeat' (conv => whnf); first
       | (refine bcase_of (fun hr => ?_) (fun hr => ?_) <;> (try simp only [decide_eq_true_eq, decide_eq_false_iff_not, ge_iff_le, gt_iff_lt] at hr) <;> try (exfalso; first | omega | (simp at hr; done) | (simp at hr; omega) | (rw [hv] at hr; simp at hr; done) | (simp [*] at hr; done)))
       | (apply And.intro; · first | exact Nat.le_of_ble_eq_true rfl | (show indep _ _ = true; kernel_rfl) | decide | exact pure_E _ | exact ⟨by decide, by decide⟩ | exact ⟨Nat.le_of_ble_eq_true rfl, allOne_of rfl⟩)
       | (apply Exists.intro; apply And.intro; · first | exact rfl | exact wakes_ok)
       | (apply Exists.intro; apply Exists.intro; apply Exists.intro; apply And.intro; · first | (refine ATriple.callN (c3) ?_ ?_ ?_ <;> rfl) | (refine ATriple.callN (c4) ?_ ?_ ?_ <;> rfl) | (refine ATriple.callN (c5) ?_ ?_ ?_ <;> rfl))
       | fail
      all_goals (conv => whnf)
      all_goals rfl
end Go.Proofs.Ytbppemcdphgknaa
