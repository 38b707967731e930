/- Chapter 15: what its functions come to (BlkL): BlockTells. -/
import Derived.Test.YtmmenojmldollaaBlkJ
import Derived.Test.YtmmenojmldollaaBlkK
set_option linter.unusedVariables false
set_option linter.unusedSimpArgs false
namespace Go.Proofs.Ytmmenojmldollaa
open Go Go.Vm
set_option maxRecDepth 100000
set_option maxHeartbeats 4000000
set_option linter.unusedSimpArgs false
set_option linter.unusedVariables false
theorem key_look (x : Blk) {i : Int} (h : 0 ≤ i) (h' : i < 6) : lget (bc x) (0 + 1 + i.toNat * 1) = some (u32V (keyB x i)) := by
  rcases (show i = 0 ∨ i = 1 ∨ i = 2 ∨ i = 3 ∨ i = 4 ∨ i = 5 by omega) with rfl | rfl | rfl | rfl | rfl | rfl <;> rfl
theorem rhas_nil (k : Int) : PTriple Try.prog gv 12 [.nils, u32V k] (.tup [i64V 0, .bool false]) := (rhas_ok [] (by decide) k).nilled (.nils (.same .nil))
theorem rout_nil (k : Int) : PTriple Try.prog gv 18 [.nils, u32V k] (pV []) := (rout_ok [] Lg.nil k).nilled (.nils (.same .nil))
def st3 (k v : Int) (b c x : Blk) (is : Bool) (j i : Int) : St Empty := mkSt 122 [(1, u32V k), (2, i64V v), (8, .ref (9, 1) 0), (9, .bool is), (10, i64V i), (28, .rsl (29, 1) 13 0 2), (29, i64V 2), (30, i64V j)] [(8, .box (bc x)), (28, .row 13 [bc b, bc c] false)] []
theorem tells_bad (b : Blk) (hb : goodB b = false) (k v : Int) : PTriple Try.prog gv 3 [bV b, u32V k, i64V v] (.bool true) := by
  have c8 := lgood_ok b
  have r1 := rgood_ok b
  have g1 := good_ok b
  have r2 := rgood_ok (B (goodL b))
  have g2 := good_ok (B (goodL b))
  rw [hb] at r1 g1
  rw [goodB_B (goodL_Lg b)] at r2 g2
  have cb := g1
  refine PTriple.of_body (C := cx) Try.func3 rfl (by kernel_rfl) mixed fun E hE => ?_
  repeat' (conv => whnf); first
   | (refine bcase_of (fun hr => ?_) (fun hr => ?_) <;> (try (exfalso; simp at hr; done)))
   | (apply And.intro; · first | exact Nat.le_of_ble_eq_true rfl | (show indep _ _ = true; kernel_rfl) | decide | exact pure_p _ | exact allOne_of rfl | exact ⟨hi, h2⟩ | exact of_decide_eq_true rfl)
   | (apply Exists.intro; apply And.intro; · first | exact rfl | exact c8 | exact r1 | exact g1)
   | fail
  all_goals (conv => whnf)
  refine VLoop.unroll hE mixed ?_
  repeat' (conv => whnf); first
   | (refine bcase_of (fun hr => ?_) (fun hr => ?_) <;> (try (exfalso; simp at hr; done)))
   | (apply And.intro; · first | exact Nat.le_of_ble_eq_true rfl | (show indep _ _ = true; kernel_rfl) | decide | exact pure_p _ | exact allOne_of rfl | exact ⟨hi, h2⟩ | exact of_decide_eq_true rfl)
   | (apply Exists.intro; apply And.intro; · first | exact rfl | exact c8 | exact r1 | exact g1)
   | fail
  all_goals (conv => whnf)
  refine VLoop.norm [1, 2, 8, 9, 10, 28, 29, 30] [8, 28] ?_
  repeat' (conv => whnf); first | (apply And.intro; · first | exact pure_p _ | exact pure_of rfl) | fail
  all_goals (conv => whnf)
  refine VLoop.inv (fun i : Int => st3 k v b (B (goodL b)) b false 0 i) (fun i => -1 ≤ i ∧ i ≤ 6) (fun i => (6 - i).toNat) (-1) (by decide) rfl ?_
  rintro i ⟨h1, h2⟩ ih
  simp only at ih
  show VLoop cx E _ (st3 k v b (B (goodL b)) b false 0 i) _
  refine VLoop.unroll hE mixed ?_
  conv => whnf
  refine bcase_of (fun hr => ?_) (fun hr => ?_)
  case refine_2 =>
    repeat' (conv => whnf); first
     | (refine bcase_of (fun hr => ?_) (fun hr => ?_) <;> skip)
     | (apply And.intro; · first | exact Nat.le_of_ble_eq_true rfl | (show indep _ _ = true; kernel_rfl) | decide)
     | (apply Exists.intro; apply And.intro; · first | exact rfl)
     | fail
    all_goals (conv => whnf)
    refine VLoop.unroll hE mixed ?_
    repeat' (conv => whnf); first
     | (refine bcase_of (fun hr => ?_) (fun hr => ?_) <;> (try (exfalso; simp at hr; done)))
     | (apply And.intro; · first | exact Nat.le_of_ble_eq_true rfl | (show indep _ _ = true; kernel_rfl) | decide | exact pure_p _ | exact allOne_of rfl | exact ⟨hi, h2⟩ | exact of_decide_eq_true rfl)
     | (apply Exists.intro; apply And.intro; · first | exact rfl | exact r2 | exact g2)
     | fail
    all_goals (conv => whnf)
    refine VLoop.norm [1, 2, 8, 9, 10, 28, 29, 30] [8, 28] ?_
    repeat' (conv => whnf); first | (apply And.intro; · first | exact pure_p _ | exact pure_of rfl) | fail
    all_goals (conv => whnf)
    refine VLoop.inv (fun i : Int => st3 k v b (B (goodL b)) (B (goodL b)) true 1 i) (fun i => -1 ≤ i ∧ i ≤ 6) (fun i => (6 - i).toNat) (-1) (by decide) rfl ?_
    rintro i ⟨h1, h2⟩ ih
    simp only at ih
    show VLoop cx E _ (st3 k v b (B (goodL b)) (B (goodL b)) true 1 i) _
    refine VLoop.unroll hE mixed ?_
    conv => whnf
    refine bcase_of (fun hr => ?_) (fun hr => ?_)
    case refine_2 =>
      repeat' (conv => whnf); first
       | (refine bcase_of (fun hr => ?_) (fun hr => ?_) <;> skip)
       | (apply And.intro; · first | exact Nat.le_of_ble_eq_true rfl | (show indep _ _ = true; kernel_rfl) | decide)
       | (apply Exists.intro; apply And.intro; · first | exact rfl | exact wakes_ok)
       | refine VLoop.unroll hE mixed ?_
       | fail
      all_goals (conv => whnf)
      all_goals rfl
    case refine_1 =>
      have h2 : i < 6 := by simpa using hr
      have hw : IntKind.i64.wrap (i + 1) = i + 1 := wrapI64 (by omega) (by omega)
      by_cases hi : 0 ≤ i
      case pos =>
        have hlk := key_look (B (goodL b)) hi h2
        obtain ⟨K, hK⟩ : ∃ z, z = keyB (B (goodL b)) i := ⟨_, rfl⟩
        rw [← hK] at hlk
        have m1 := rhas_ok (goodL b) (goodL_Lg b).len K
        have m2 := find_ok (goodL b) (goodL_Lg b) K
        have c9 := rout_ok (goodL b) (goodL_Lg b) K
        generalize hrk : rank (goodL b) K = rk at m1 m2
        by_cases hp : (lay (goodL b) K v).length ≤ 6
        case pos =>
          cases hh : has (goodL b) K with
          | true =>
            rw [hh] at m1 m2
            repeat' (conv => whnf); first
             | (refine bcase_of (fun hr => ?_) (fun hr => ?_) <;> (try simp only [decide_eq_true_eq, decide_eq_false_iff_not, ge_iff_le] at hr) <;> (try (exfalso; first | omega | (simp at hr; done))))
             | (apply And.intro; · first | exact Nat.le_of_ble_eq_true rfl | (show indep _ _ = true; kernel_rfl) | decide | exact pure_p _ | exact allOne_of rfl | exact ⟨hi, h2⟩ | exact of_decide_eq_true rfl)
             | (apply Exists.intro; apply And.intro; · first | exact rfl | exact pairs_ok (goodL b) (goodL_Lg b).len | exact m1 | exact m2 | exact c9 | exact rlay_ok (goodL b) (goodL_Lg b).len K v | exact put_ok (goodL b) (goodL_Lg b) K v hp | exact lmade_ok (lay (goodL b) K v) hp | exact drop_ok (goodL b) (goodL_Lg b) K hh | exact lmade_ok (out (goodL b) K) ((goodL_Lg b).out K).len | exact hlk)
             | fail
            all_goals (conv => whnf)
            refine VLoop.norm [1, 2, 8, 9, 10, 28, 29, 30] [8, 28] ?_
            repeat' (conv => whnf); first | (apply And.intro; · first | exact pure_p _ | exact pure_of rfl) | fail
            all_goals (conv => whnf)
            exact ih (IntKind.i64.wrap (i + 1)) ⟨by omega, by omega⟩ (by omega)
          | false =>
            rw [hh] at m1 m2
            repeat' (conv => whnf); first
             | (refine bcase_of (fun hr => ?_) (fun hr => ?_) <;> (try simp only [decide_eq_true_eq, decide_eq_false_iff_not, ge_iff_le] at hr) <;> (try (exfalso; first | omega | (simp at hr; done))))
             | (apply And.intro; · first | exact Nat.le_of_ble_eq_true rfl | (show indep _ _ = true; kernel_rfl) | decide | exact pure_p _ | exact allOne_of rfl | exact ⟨hi, h2⟩ | exact of_decide_eq_true rfl)
             | (apply Exists.intro; apply And.intro; · first | exact rfl | exact pairs_ok (goodL b) (goodL_Lg b).len | exact m1 | exact m2 | exact c9 | exact rlay_ok (goodL b) (goodL_Lg b).len K v | exact put_ok (goodL b) (goodL_Lg b) K v hp | exact lmade_ok (lay (goodL b) K v) hp | exact drop_no (goodL b) (goodL_Lg b) K hh | exact lmade_no (out (goodL b) K) | exact hlk)
             | fail
            all_goals (conv => whnf)
            refine VLoop.norm [1, 2, 8, 9, 10, 28, 29, 30] [8, 28] ?_
            repeat' (conv => whnf); first | (apply And.intro; · first | exact pure_p _ | exact pure_of rfl) | fail
            all_goals (conv => whnf)
            exact ih (IntKind.i64.wrap (i + 1)) ⟨by omega, by omega⟩ (by omega)
        case neg =>
          cases hh : has (goodL b) K with
          | true =>
            rw [hh] at m1 m2
            repeat' (conv => whnf); first
             | (refine bcase_of (fun hr => ?_) (fun hr => ?_) <;> (try simp only [decide_eq_true_eq, decide_eq_false_iff_not, ge_iff_le] at hr) <;> (try (exfalso; first | omega | (simp at hr; done))))
             | (apply And.intro; · first | exact Nat.le_of_ble_eq_true rfl | (show indep _ _ = true; kernel_rfl) | decide | exact pure_p _ | exact allOne_of rfl | exact ⟨hi, h2⟩ | exact of_decide_eq_true rfl)
             | (apply Exists.intro; apply And.intro; · first | exact rfl | exact pairs_ok (goodL b) (goodL_Lg b).len | exact m1 | exact m2 | exact c9 | exact rlay_ok (goodL b) (goodL_Lg b).len K v | exact put_full (goodL b) (goodL_Lg b) K v hp | exact lmade_full (lay (goodL b) K v) hp | exact drop_ok (goodL b) (goodL_Lg b) K hh | exact lmade_ok (out (goodL b) K) ((goodL_Lg b).out K).len | exact hlk)
             | fail
            all_goals (conv => whnf)
            refine VLoop.norm [1, 2, 8, 9, 10, 28, 29, 30] [8, 28] ?_
            repeat' (conv => whnf); first | (apply And.intro; · first | exact pure_p _ | exact pure_of rfl) | fail
            all_goals (conv => whnf)
            exact ih (IntKind.i64.wrap (i + 1)) ⟨by omega, by omega⟩ (by omega)
          | false =>
            rw [hh] at m1 m2
            repeat' (conv => whnf); first
             | (refine bcase_of (fun hr => ?_) (fun hr => ?_) <;> (try simp only [decide_eq_true_eq, decide_eq_false_iff_not, ge_iff_le] at hr) <;> (try (exfalso; first | omega | (simp at hr; done))))
             | (apply And.intro; · first | exact Nat.le_of_ble_eq_true rfl | (show indep _ _ = true; kernel_rfl) | decide | exact pure_p _ | exact allOne_of rfl | exact ⟨hi, h2⟩ | exact of_decide_eq_true rfl)
             | (apply Exists.intro; apply And.intro; · first | exact rfl | exact pairs_ok (goodL b) (goodL_Lg b).len | exact m1 | exact m2 | exact c9 | exact rlay_ok (goodL b) (goodL_Lg b).len K v | exact put_full (goodL b) (goodL_Lg b) K v hp | exact lmade_full (lay (goodL b) K v) hp | exact drop_no (goodL b) (goodL_Lg b) K hh | exact lmade_no (out (goodL b) K) | exact hlk)
             | fail
            all_goals (conv => whnf)
            refine VLoop.norm [1, 2, 8, 9, 10, 28, 29, 30] [8, 28] ?_
            repeat' (conv => whnf); first | (apply And.intro; · first | exact pure_p _ | exact pure_of rfl) | fail
            all_goals (conv => whnf)
            exact ih (IntKind.i64.wrap (i + 1)) ⟨by omega, by omega⟩ (by omega)
      case neg =>
        obtain ⟨K, hK⟩ : ∃ z, z = k := ⟨_, rfl⟩
        subst hK
        have m1 := rhas_ok (goodL b) (goodL_Lg b).len K
        have m2 := find_ok (goodL b) (goodL_Lg b) K
        have c9 := rout_ok (goodL b) (goodL_Lg b) K
        generalize hrk : rank (goodL b) K = rk at m1 m2
        by_cases hp : (lay (goodL b) K v).length ≤ 6
        case pos =>
          cases hh : has (goodL b) K with
          | true =>
            rw [hh] at m1 m2
            repeat' (conv => whnf); first
             | (refine bcase_of (fun hr => ?_) (fun hr => ?_) <;> (try simp only [decide_eq_true_eq, decide_eq_false_iff_not, ge_iff_le] at hr) <;> (try (exfalso; first | omega | (simp at hr; done))))
             | (apply And.intro; · first | exact Nat.le_of_ble_eq_true rfl | (show indep _ _ = true; kernel_rfl) | decide | exact pure_p _ | exact allOne_of rfl | exact ⟨hi, h2⟩ | exact of_decide_eq_true rfl)
             | (apply Exists.intro; apply And.intro; · first | exact rfl | exact pairs_ok (goodL b) (goodL_Lg b).len | exact m1 | exact m2 | exact c9 | exact rlay_ok (goodL b) (goodL_Lg b).len K v | exact put_ok (goodL b) (goodL_Lg b) K v hp | exact lmade_ok (lay (goodL b) K v) hp | exact drop_ok (goodL b) (goodL_Lg b) K hh | exact lmade_ok (out (goodL b) K) ((goodL_Lg b).out K).len)
             | fail
            all_goals (conv => whnf)
            refine VLoop.norm [1, 2, 8, 9, 10, 28, 29, 30] [8, 28] ?_
            repeat' (conv => whnf); first | (apply And.intro; · first | exact pure_p _ | exact pure_of rfl) | fail
            all_goals (conv => whnf)
            exact ih (IntKind.i64.wrap (i + 1)) ⟨by omega, by omega⟩ (by omega)
          | false =>
            rw [hh] at m1 m2
            repeat' (conv => whnf); first
             | (refine bcase_of (fun hr => ?_) (fun hr => ?_) <;> (try simp only [decide_eq_true_eq, decide_eq_false_iff_not, ge_iff_le] at hr) <;> (try (exfalso; first | omega | (simp at hr; done))))
             | (apply And.intro; · first | exact Nat.le_of_ble_eq_true rfl | (show indep _ _ = true; kernel_rfl) | decide | exact pure_p _ | exact allOne_of rfl | exact ⟨hi, h2⟩ | exact of_decide_eq_true rfl)
             | (apply Exists.intro; apply And.intro; · first | exact rfl | exact pairs_ok (goodL b) (goodL_Lg b).len | exact m1 | exact m2 | exact c9 | exact rlay_ok (goodL b) (goodL_Lg b).len K v | exact put_ok (goodL b) (goodL_Lg b) K v hp | exact lmade_ok (lay (goodL b) K v) hp | exact drop_no (goodL b) (goodL_Lg b) K hh | exact lmade_no (out (goodL b) K))
             | fail
            all_goals (conv => whnf)
            refine VLoop.norm [1, 2, 8, 9, 10, 28, 29, 30] [8, 28] ?_
            repeat' (conv => whnf); first | (apply And.intro; · first | exact pure_p _ | exact pure_of rfl) | fail
            all_goals (conv => whnf)
            exact ih (IntKind.i64.wrap (i + 1)) ⟨by omega, by omega⟩ (by omega)
        case neg =>
          cases hh : has (goodL b) K with
          | true =>
            rw [hh] at m1 m2
            repeat' (conv => whnf); first
             | (refine bcase_of (fun hr => ?_) (fun hr => ?_) <;> (try simp only [decide_eq_true_eq, decide_eq_false_iff_not, ge_iff_le] at hr) <;> (try (exfalso; first | omega | (simp at hr; done))))
             | (apply And.intro; · first | exact Nat.le_of_ble_eq_true rfl | (show indep _ _ = true; kernel_rfl) | decide | exact pure_p _ | exact allOne_of rfl | exact ⟨hi, h2⟩ | exact of_decide_eq_true rfl)
             | (apply Exists.intro; apply And.intro; · first | exact rfl | exact pairs_ok (goodL b) (goodL_Lg b).len | exact m1 | exact m2 | exact c9 | exact rlay_ok (goodL b) (goodL_Lg b).len K v | exact put_full (goodL b) (goodL_Lg b) K v hp | exact lmade_full (lay (goodL b) K v) hp | exact drop_ok (goodL b) (goodL_Lg b) K hh | exact lmade_ok (out (goodL b) K) ((goodL_Lg b).out K).len)
             | fail
            all_goals (conv => whnf)
            refine VLoop.norm [1, 2, 8, 9, 10, 28, 29, 30] [8, 28] ?_
            repeat' (conv => whnf); first | (apply And.intro; · first | exact pure_p _ | exact pure_of rfl) | fail
            all_goals (conv => whnf)
            exact ih (IntKind.i64.wrap (i + 1)) ⟨by omega, by omega⟩ (by omega)
          | false =>
            rw [hh] at m1 m2
            repeat' (conv => whnf); first
             | (refine bcase_of (fun hr => ?_) (fun hr => ?_) <;> (try simp only [decide_eq_true_eq, decide_eq_false_iff_not, ge_iff_le] at hr) <;> (try (exfalso; first | omega | (simp at hr; done))))
             | (apply And.intro; · first | exact Nat.le_of_ble_eq_true rfl | (show indep _ _ = true; kernel_rfl) | decide | exact pure_p _ | exact allOne_of rfl | exact ⟨hi, h2⟩ | exact of_decide_eq_true rfl)
             | (apply Exists.intro; apply And.intro; · first | exact rfl | exact pairs_ok (goodL b) (goodL_Lg b).len | exact m1 | exact m2 | exact c9 | exact rlay_ok (goodL b) (goodL_Lg b).len K v | exact put_full (goodL b) (goodL_Lg b) K v hp | exact lmade_full (lay (goodL b) K v) hp | exact drop_no (goodL b) (goodL_Lg b) K hh | exact lmade_no (out (goodL b) K))
             | fail
            all_goals (conv => whnf)
            refine VLoop.norm [1, 2, 8, 9, 10, 28, 29, 30] [8, 28] ?_
            repeat' (conv => whnf); first | (apply And.intro; · first | exact pure_p _ | exact pure_of rfl) | fail
            all_goals (conv => whnf)
            exact ih (IntKind.i64.wrap (i + 1)) ⟨by omega, by omega⟩ (by omega)
  case refine_1 =>
    have h2 : i < 6 := by simpa using hr
    have hw : IntKind.i64.wrap (i + 1) = i + 1 := wrapI64 (by omega) (by omega)
    by_cases hi : 0 ≤ i
    case pos =>
      have hlk := key_look b hi h2
      obtain ⟨K, hK⟩ : ∃ z, z = keyB b i := ⟨_, rfl⟩
      rw [← hK] at hlk
      repeat' (conv => whnf); first
       | (refine bcase_of (fun hr => ?_) (fun hr => ?_) <;> (try simp only [decide_eq_true_eq, decide_eq_false_iff_not, ge_iff_le] at hr) <;> (try (exfalso; first | omega | (simp at hr; done))))
       | (apply And.intro; · first | exact Nat.le_of_ble_eq_true rfl | (show indep _ _ = true; kernel_rfl) | decide | exact pure_p _ | exact allOne_of rfl | exact ⟨hi, h2⟩ | exact of_decide_eq_true rfl)
       | (apply Exists.intro; apply And.intro; · first | exact rfl | exact cb | exact rhas_nil K | exact find_bad b hb K | exact put_bad b hb K v | exact rlay_nil K v | exact lmade_no (lay [] K v) | exact drop_bad b hb K | exact rout_nil K | exact lmade_no [] | exact hlk)
       | fail
      all_goals (conv => whnf)
      refine VLoop.norm [1, 2, 8, 9, 10, 28, 29, 30] [8, 28] ?_
      repeat' (conv => whnf); first | (apply And.intro; · first | exact pure_p _ | exact pure_of rfl) | fail
      all_goals (conv => whnf)
      exact ih (IntKind.i64.wrap (i + 1)) ⟨by omega, by omega⟩ (by omega)
    case neg =>
      obtain ⟨K, hK⟩ : ∃ z, z = k := ⟨_, rfl⟩
      subst hK
      repeat' (conv => whnf); first
       | (refine bcase_of (fun hr => ?_) (fun hr => ?_) <;> (try simp only [decide_eq_true_eq, decide_eq_false_iff_not, ge_iff_le] at hr) <;> (try (exfalso; first | omega | (simp at hr; done))))
       | (apply And.intro; · first | exact Nat.le_of_ble_eq_true rfl | (show indep _ _ = true; kernel_rfl) | decide | exact pure_p _ | exact allOne_of rfl | exact ⟨hi, h2⟩ | exact of_decide_eq_true rfl)
       | (apply Exists.intro; apply And.intro; · first | exact rfl | exact cb | exact rhas_nil K | exact find_bad b hb K | exact put_bad b hb K v | exact rlay_nil K v | exact lmade_no (lay [] K v) | exact drop_bad b hb K | exact rout_nil K | exact lmade_no [])
       | fail
      all_goals (conv => whnf)
      refine VLoop.norm [1, 2, 8, 9, 10, 28, 29, 30] [8, 28] ?_
      repeat' (conv => whnf); first | (apply And.intro; · first | exact pure_p _ | exact pure_of rfl) | fail
      all_goals (conv => whnf)
      exact ih (IntKind.i64.wrap (i + 1)) ⟨by omega, by omega⟩ (by omega)
theorem tells_good (l : List (Int × Int)) (hl : Lg l) (k v : Int) : PTriple Try.prog gv 3 [bV (B l), u32V k, i64V v] (.bool true) := by
  have c8 := lgood_ok (B l)
  have r1 := rgood_ok (B l)
  have g1 := good_ok (B l)
  have r2 := rgood_ok (B (goodL (B l)))
  have g2 := good_ok (B (goodL (B l)))
  rw [goodB_B hl] at r1 g1
  rw [goodB_B (goodL_Lg (B l))] at r2 g2
  refine PTriple.of_body (C := cx) Try.func3 rfl (by kernel_rfl) mixed fun E hE => ?_
  repeat' (conv => whnf); first
   | (refine bcase_of (fun hr => ?_) (fun hr => ?_) <;> (try (exfalso; simp at hr; done)))
   | (apply And.intro; · first | exact Nat.le_of_ble_eq_true rfl | (show indep _ _ = true; kernel_rfl) | decide | exact pure_p _ | exact allOne_of rfl | exact ⟨hi, h2⟩ | exact of_decide_eq_true rfl)
   | (apply Exists.intro; apply And.intro; · first | exact rfl | exact c8 | exact r1 | exact g1)
   | fail
  all_goals (conv => whnf)
  refine VLoop.unroll hE mixed ?_
  repeat' (conv => whnf); first
   | (refine bcase_of (fun hr => ?_) (fun hr => ?_) <;> (try (exfalso; simp at hr; done)))
   | (apply And.intro; · first | exact Nat.le_of_ble_eq_true rfl | (show indep _ _ = true; kernel_rfl) | decide | exact pure_p _ | exact allOne_of rfl | exact ⟨hi, h2⟩ | exact of_decide_eq_true rfl)
   | (apply Exists.intro; apply And.intro; · first | exact rfl | exact c8 | exact r1 | exact g1)
   | fail
  all_goals (conv => whnf)
  refine VLoop.norm [1, 2, 8, 9, 10, 28, 29, 30] [8, 28] ?_
  repeat' (conv => whnf); first | (apply And.intro; · first | exact pure_p _ | exact pure_of rfl) | fail
  all_goals (conv => whnf)
  refine VLoop.inv (fun i : Int => st3 k v (B l) (B (goodL (B l))) (B l) true 0 i) (fun i => -1 ≤ i ∧ i ≤ 6) (fun i => (6 - i).toNat) (-1) (by decide) rfl ?_
  rintro i ⟨h1, h2⟩ ih
  simp only at ih
  show VLoop cx E _ (st3 k v (B l) (B (goodL (B l))) (B l) true 0 i) _
  refine VLoop.unroll hE mixed ?_
  conv => whnf
  refine bcase_of (fun hr => ?_) (fun hr => ?_)
  case refine_2 =>
    repeat' (conv => whnf); first
     | (refine bcase_of (fun hr => ?_) (fun hr => ?_) <;> skip)
     | (apply And.intro; · first | exact Nat.le_of_ble_eq_true rfl | (show indep _ _ = true; kernel_rfl) | decide)
     | (apply Exists.intro; apply And.intro; · first | exact rfl)
     | fail
    all_goals (conv => whnf)
    refine VLoop.unroll hE mixed ?_
    repeat' (conv => whnf); first
     | (refine bcase_of (fun hr => ?_) (fun hr => ?_) <;> (try (exfalso; simp at hr; done)))
     | (apply And.intro; · first | exact Nat.le_of_ble_eq_true rfl | (show indep _ _ = true; kernel_rfl) | decide | exact pure_p _ | exact allOne_of rfl | exact ⟨hi, h2⟩ | exact of_decide_eq_true rfl)
     | (apply Exists.intro; apply And.intro; · first | exact rfl | exact r2 | exact g2)
     | fail
    all_goals (conv => whnf)
    refine VLoop.norm [1, 2, 8, 9, 10, 28, 29, 30] [8, 28] ?_
    repeat' (conv => whnf); first | (apply And.intro; · first | exact pure_p _ | exact pure_of rfl) | fail
    all_goals (conv => whnf)
    refine VLoop.inv (fun i : Int => st3 k v (B l) (B (goodL (B l))) (B (goodL (B l))) true 1 i) (fun i => -1 ≤ i ∧ i ≤ 6) (fun i => (6 - i).toNat) (-1) (by decide) rfl ?_
    rintro i ⟨h1, h2⟩ ih
    simp only at ih
    show VLoop cx E _ (st3 k v (B l) (B (goodL (B l))) (B (goodL (B l))) true 1 i) _
    refine VLoop.unroll hE mixed ?_
    conv => whnf
    refine bcase_of (fun hr => ?_) (fun hr => ?_)
    case refine_2 =>
      repeat' (conv => whnf); first
       | (refine bcase_of (fun hr => ?_) (fun hr => ?_) <;> skip)
       | (apply And.intro; · first | exact Nat.le_of_ble_eq_true rfl | (show indep _ _ = true; kernel_rfl) | decide)
       | (apply Exists.intro; apply And.intro; · first | exact rfl | exact wakes_ok)
       | refine VLoop.unroll hE mixed ?_
       | fail
      all_goals (conv => whnf)
      all_goals rfl
    case refine_1 =>
      have h2 : i < 6 := by simpa using hr
      have hw : IntKind.i64.wrap (i + 1) = i + 1 := wrapI64 (by omega) (by omega)
      by_cases hi : 0 ≤ i
      case pos =>
        have hlk := key_look (B (goodL (B l))) hi h2
        obtain ⟨K, hK⟩ : ∃ z, z = keyB (B (goodL (B l))) i := ⟨_, rfl⟩
        rw [← hK] at hlk
        have m1 := rhas_ok (goodL (B l)) (goodL_Lg (B l)).len K
        have m2 := find_ok (goodL (B l)) (goodL_Lg (B l)) K
        have c9 := rout_ok (goodL (B l)) (goodL_Lg (B l)) K
        generalize hrk : rank (goodL (B l)) K = rk at m1 m2
        by_cases hp : (lay (goodL (B l)) K v).length ≤ 6
        case pos =>
          cases hh : has (goodL (B l)) K with
          | true =>
            rw [hh] at m1 m2
            repeat' (conv => whnf); first
             | (refine bcase_of (fun hr => ?_) (fun hr => ?_) <;> (try simp only [decide_eq_true_eq, decide_eq_false_iff_not, ge_iff_le] at hr) <;> (try (exfalso; first | omega | (simp at hr; done))))
             | (apply And.intro; · first | exact Nat.le_of_ble_eq_true rfl | (show indep _ _ = true; kernel_rfl) | decide | exact pure_p _ | exact allOne_of rfl | exact ⟨hi, h2⟩ | exact of_decide_eq_true rfl)
             | (apply Exists.intro; apply And.intro; · first | exact rfl | exact pairs_ok (goodL (B l)) (goodL_Lg (B l)).len | exact m1 | exact m2 | exact c9 | exact rlay_ok (goodL (B l)) (goodL_Lg (B l)).len K v | exact put_ok (goodL (B l)) (goodL_Lg (B l)) K v hp | exact lmade_ok (lay (goodL (B l)) K v) hp | exact drop_ok (goodL (B l)) (goodL_Lg (B l)) K hh | exact lmade_ok (out (goodL (B l)) K) ((goodL_Lg (B l)).out K).len | exact hlk)
             | fail
            all_goals (conv => whnf)
            refine VLoop.norm [1, 2, 8, 9, 10, 28, 29, 30] [8, 28] ?_
            repeat' (conv => whnf); first | (apply And.intro; · first | exact pure_p _ | exact pure_of rfl) | fail
            all_goals (conv => whnf)
            exact ih (IntKind.i64.wrap (i + 1)) ⟨by omega, by omega⟩ (by omega)
          | false =>
            rw [hh] at m1 m2
            repeat' (conv => whnf); first
             | (refine bcase_of (fun hr => ?_) (fun hr => ?_) <;> (try simp only [decide_eq_true_eq, decide_eq_false_iff_not, ge_iff_le] at hr) <;> (try (exfalso; first | omega | (simp at hr; done))))
             | (apply And.intro; · first | exact Nat.le_of_ble_eq_true rfl | (show indep _ _ = true; kernel_rfl) | decide | exact pure_p _ | exact allOne_of rfl | exact ⟨hi, h2⟩ | exact of_decide_eq_true rfl)
             | (apply Exists.intro; apply And.intro; · first | exact rfl | exact pairs_ok (goodL (B l)) (goodL_Lg (B l)).len | exact m1 | exact m2 | exact c9 | exact rlay_ok (goodL (B l)) (goodL_Lg (B l)).len K v | exact put_ok (goodL (B l)) (goodL_Lg (B l)) K v hp | exact lmade_ok (lay (goodL (B l)) K v) hp | exact drop_no (goodL (B l)) (goodL_Lg (B l)) K hh | exact lmade_no (out (goodL (B l)) K) | exact hlk)
             | fail
            all_goals (conv => whnf)
            refine VLoop.norm [1, 2, 8, 9, 10, 28, 29, 30] [8, 28] ?_
            repeat' (conv => whnf); first | (apply And.intro; · first | exact pure_p _ | exact pure_of rfl) | fail
            all_goals (conv => whnf)
            exact ih (IntKind.i64.wrap (i + 1)) ⟨by omega, by omega⟩ (by omega)
        case neg =>
          cases hh : has (goodL (B l)) K with
          | true =>
            rw [hh] at m1 m2
            repeat' (conv => whnf); first
             | (refine bcase_of (fun hr => ?_) (fun hr => ?_) <;> (try simp only [decide_eq_true_eq, decide_eq_false_iff_not, ge_iff_le] at hr) <;> (try (exfalso; first | omega | (simp at hr; done))))
             | (apply And.intro; · first | exact Nat.le_of_ble_eq_true rfl | (show indep _ _ = true; kernel_rfl) | decide | exact pure_p _ | exact allOne_of rfl | exact ⟨hi, h2⟩ | exact of_decide_eq_true rfl)
             | (apply Exists.intro; apply And.intro; · first | exact rfl | exact pairs_ok (goodL (B l)) (goodL_Lg (B l)).len | exact m1 | exact m2 | exact c9 | exact rlay_ok (goodL (B l)) (goodL_Lg (B l)).len K v | exact put_full (goodL (B l)) (goodL_Lg (B l)) K v hp | exact lmade_full (lay (goodL (B l)) K v) hp | exact drop_ok (goodL (B l)) (goodL_Lg (B l)) K hh | exact lmade_ok (out (goodL (B l)) K) ((goodL_Lg (B l)).out K).len | exact hlk)
             | fail
            all_goals (conv => whnf)
            refine VLoop.norm [1, 2, 8, 9, 10, 28, 29, 30] [8, 28] ?_
            repeat' (conv => whnf); first | (apply And.intro; · first | exact pure_p _ | exact pure_of rfl) | fail
            all_goals (conv => whnf)
            exact ih (IntKind.i64.wrap (i + 1)) ⟨by omega, by omega⟩ (by omega)
          | false =>
            rw [hh] at m1 m2
            repeat' (conv => whnf); first
             | (refine bcase_of (fun hr => ?_) (fun hr => ?_) <;> (try simp only [decide_eq_true_eq, decide_eq_false_iff_not, ge_iff_le] at hr) <;> (try (exfalso; first | omega | (simp at hr; done))))
             | (apply And.intro; · first | exact Nat.le_of_ble_eq_true rfl | (show indep _ _ = true; kernel_rfl) | decide | exact pure_p _ | exact allOne_of rfl | exact ⟨hi, h2⟩ | exact of_decide_eq_true rfl)
             | (apply Exists.intro; apply And.intro; · first | exact rfl | exact pairs_ok (goodL (B l)) (goodL_Lg (B l)).len | exact m1 | exact m2 | exact c9 | exact rlay_ok (goodL (B l)) (goodL_Lg (B l)).len K v | exact put_full (goodL (B l)) (goodL_Lg (B l)) K v hp | exact lmade_full (lay (goodL (B l)) K v) hp | exact drop_no (goodL (B l)) (goodL_Lg (B l)) K hh | exact lmade_no (out (goodL (B l)) K) | exact hlk)
             | fail
            all_goals (conv => whnf)
            refine VLoop.norm [1, 2, 8, 9, 10, 28, 29, 30] [8, 28] ?_
            repeat' (conv => whnf); first | (apply And.intro; · first | exact pure_p _ | exact pure_of rfl) | fail
            all_goals (conv => whnf)
            exact ih (IntKind.i64.wrap (i + 1)) ⟨by omega, by omega⟩ (by omega)
      case neg =>
        obtain ⟨K, hK⟩ : ∃ z, z = k := ⟨_, rfl⟩
        subst hK
        have m1 := rhas_ok (goodL (B l)) (goodL_Lg (B l)).len K
        have m2 := find_ok (goodL (B l)) (goodL_Lg (B l)) K
        have c9 := rout_ok (goodL (B l)) (goodL_Lg (B l)) K
        generalize hrk : rank (goodL (B l)) K = rk at m1 m2
        by_cases hp : (lay (goodL (B l)) K v).length ≤ 6
        case pos =>
          cases hh : has (goodL (B l)) K with
          | true =>
            rw [hh] at m1 m2
            repeat' (conv => whnf); first
             | (refine bcase_of (fun hr => ?_) (fun hr => ?_) <;> (try simp only [decide_eq_true_eq, decide_eq_false_iff_not, ge_iff_le] at hr) <;> (try (exfalso; first | omega | (simp at hr; done))))
             | (apply And.intro; · first | exact Nat.le_of_ble_eq_true rfl | (show indep _ _ = true; kernel_rfl) | decide | exact pure_p _ | exact allOne_of rfl | exact ⟨hi, h2⟩ | exact of_decide_eq_true rfl)
             | (apply Exists.intro; apply And.intro; · first | exact rfl | exact pairs_ok (goodL (B l)) (goodL_Lg (B l)).len | exact m1 | exact m2 | exact c9 | exact rlay_ok (goodL (B l)) (goodL_Lg (B l)).len K v | exact put_ok (goodL (B l)) (goodL_Lg (B l)) K v hp | exact lmade_ok (lay (goodL (B l)) K v) hp | exact drop_ok (goodL (B l)) (goodL_Lg (B l)) K hh | exact lmade_ok (out (goodL (B l)) K) ((goodL_Lg (B l)).out K).len)
             | fail
            all_goals (conv => whnf)
            refine VLoop.norm [1, 2, 8, 9, 10, 28, 29, 30] [8, 28] ?_
            repeat' (conv => whnf); first | (apply And.intro; · first | exact pure_p _ | exact pure_of rfl) | fail
            all_goals (conv => whnf)
            exact ih (IntKind.i64.wrap (i + 1)) ⟨by omega, by omega⟩ (by omega)
          | false =>
            rw [hh] at m1 m2
            repeat' (conv => whnf); first
             | (refine bcase_of (fun hr => ?_) (fun hr => ?_) <;> (try simp only [decide_eq_true_eq, decide_eq_false_iff_not, ge_iff_le] at hr) <;> (try (exfalso; first | omega | (simp at hr; done))))
             | (apply And.intro; · first | exact Nat.le_of_ble_eq_true rfl | (show indep _ _ = true; kernel_rfl) | decide | exact pure_p _ | exact allOne_of rfl | exact ⟨hi, h2⟩ | exact of_decide_eq_true rfl)
             | (apply Exists.intro; apply And.intro; · first | exact rfl | exact pairs_ok (goodL (B l)) (goodL_Lg (B l)).len | exact m1 | exact m2 | exact c9 | exact rlay_ok (goodL (B l)) (goodL_Lg (B l)).len K v | exact put_ok (goodL (B l)) (goodL_Lg (B l)) K v hp | exact lmade_ok (lay (goodL (B l)) K v) hp | exact drop_no (goodL (B l)) (goodL_Lg (B l)) K hh | exact lmade_no (out (goodL (B l)) K))
             | fail
            all_goals (conv => whnf)
            refine VLoop.norm [1, 2, 8, 9, 10, 28, 29, 30] [8, 28] ?_
            repeat' (conv => whnf); first | (apply And.intro; · first | exact pure_p _ | exact pure_of rfl) | fail
            all_goals (conv => whnf)
            exact ih (IntKind.i64.wrap (i + 1)) ⟨by omega, by omega⟩ (by omega)
        case neg =>
          cases hh : has (goodL (B l)) K with
          | true =>
            rw [hh] at m1 m2
            repeat' (conv => whnf); first
             | (refine bcase_of (fun hr => ?_) (fun hr => ?_) <;> (try simp only [decide_eq_true_eq, decide_eq_false_iff_not, ge_iff_le] at hr) <;> (try (exfalso; first | omega | (simp at hr; done))))
             | (apply And.intro; · first | exact Nat.le_of_ble_eq_true rfl | (show indep _ _ = true; kernel_rfl) | decide | exact pure_p _ | exact allOne_of rfl | exact ⟨hi, h2⟩ | exact of_decide_eq_true rfl)
             | (apply Exists.intro; apply And.intro; · first | exact rfl | exact pairs_ok (goodL (B l)) (goodL_Lg (B l)).len | exact m1 | exact m2 | exact c9 | exact rlay_ok (goodL (B l)) (goodL_Lg (B l)).len K v | exact put_full (goodL (B l)) (goodL_Lg (B l)) K v hp | exact lmade_full (lay (goodL (B l)) K v) hp | exact drop_ok (goodL (B l)) (goodL_Lg (B l)) K hh | exact lmade_ok (out (goodL (B l)) K) ((goodL_Lg (B l)).out K).len)
             | fail
            all_goals (conv => whnf)
            refine VLoop.norm [1, 2, 8, 9, 10, 28, 29, 30] [8, 28] ?_
            repeat' (conv => whnf); first | (apply And.intro; · first | exact pure_p _ | exact pure_of rfl) | fail
            all_goals (conv => whnf)
            exact ih (IntKind.i64.wrap (i + 1)) ⟨by omega, by omega⟩ (by omega)
          | false =>
            rw [hh] at m1 m2
            repeat' (conv => whnf); first
             | (refine bcase_of (fun hr => ?_) (fun hr => ?_) <;> (try simp only [decide_eq_true_eq, decide_eq_false_iff_not, ge_iff_le] at hr) <;> (try (exfalso; first | omega | (simp at hr; done))))
             | (apply And.intro; · first | exact Nat.le_of_ble_eq_true rfl | (show indep _ _ = true; kernel_rfl) | decide | exact pure_p _ | exact allOne_of rfl | exact ⟨hi, h2⟩ | exact of_decide_eq_true rfl)
             | (apply Exists.intro; apply And.intro; · first | exact rfl | exact pairs_ok (goodL (B l)) (goodL_Lg (B l)).len | exact m1 | exact m2 | exact c9 | exact rlay_ok (goodL (B l)) (goodL_Lg (B l)).len K v | exact put_full (goodL (B l)) (goodL_Lg (B l)) K v hp | exact lmade_full (lay (goodL (B l)) K v) hp | exact drop_no (goodL (B l)) (goodL_Lg (B l)) K hh | exact lmade_no (out (goodL (B l)) K))
             | fail
            all_goals (conv => whnf)
            refine VLoop.norm [1, 2, 8, 9, 10, 28, 29, 30] [8, 28] ?_
            repeat' (conv => whnf); first | (apply And.intro; · first | exact pure_p _ | exact pure_of rfl) | fail
            all_goals (conv => whnf)
            exact ih (IntKind.i64.wrap (i + 1)) ⟨by omega, by omega⟩ (by omega)
  case refine_1 =>
    have h2 : i < 6 := by simpa using hr
    have hw : IntKind.i64.wrap (i + 1) = i + 1 := wrapI64 (by omega) (by omega)
    by_cases hi : 0 ≤ i
    case pos =>
      have hlk := key_look (B l) hi h2
      obtain ⟨K, hK⟩ : ∃ z, z = keyB (B l) i := ⟨_, rfl⟩
      rw [← hK] at hlk
      have m1 := rhas_ok l hl.len K
      have m2 := find_ok l hl K
      have c9 := rout_ok l hl K
      generalize hrk : rank l K = rk at m1 m2
      by_cases hp : (lay l K v).length ≤ 6
      case pos =>
        cases hh : has l K with
        | true =>
          rw [hh] at m1 m2
          repeat' (conv => whnf); first
           | (refine bcase_of (fun hr => ?_) (fun hr => ?_) <;> (try simp only [decide_eq_true_eq, decide_eq_false_iff_not, ge_iff_le] at hr) <;> (try (exfalso; first | omega | (simp at hr; done))))
           | (apply And.intro; · first | exact Nat.le_of_ble_eq_true rfl | (show indep _ _ = true; kernel_rfl) | decide | exact pure_p _ | exact allOne_of rfl | exact ⟨hi, h2⟩ | exact of_decide_eq_true rfl)
           | (apply Exists.intro; apply And.intro; · first | exact rfl | exact pairs_ok l hl.len | exact m1 | exact m2 | exact c9 | exact rlay_ok l hl.len K v | exact put_ok l hl K v hp | exact lmade_ok (lay l K v) hp | exact drop_ok l hl K hh | exact lmade_ok (out l K) (hl.out K).len | exact hlk)
           | fail
          all_goals (conv => whnf)
          refine VLoop.norm [1, 2, 8, 9, 10, 28, 29, 30] [8, 28] ?_
          repeat' (conv => whnf); first | (apply And.intro; · first | exact pure_p _ | exact pure_of rfl) | fail
          all_goals (conv => whnf)
          exact ih (IntKind.i64.wrap (i + 1)) ⟨by omega, by omega⟩ (by omega)
        | false =>
          rw [hh] at m1 m2
          repeat' (conv => whnf); first
           | (refine bcase_of (fun hr => ?_) (fun hr => ?_) <;> (try simp only [decide_eq_true_eq, decide_eq_false_iff_not, ge_iff_le] at hr) <;> (try (exfalso; first | omega | (simp at hr; done))))
           | (apply And.intro; · first | exact Nat.le_of_ble_eq_true rfl | (show indep _ _ = true; kernel_rfl) | decide | exact pure_p _ | exact allOne_of rfl | exact ⟨hi, h2⟩ | exact of_decide_eq_true rfl)
           | (apply Exists.intro; apply And.intro; · first | exact rfl | exact pairs_ok l hl.len | exact m1 | exact m2 | exact c9 | exact rlay_ok l hl.len K v | exact put_ok l hl K v hp | exact lmade_ok (lay l K v) hp | exact drop_no l hl K hh | exact lmade_no (out l K) | exact hlk)
           | fail
          all_goals (conv => whnf)
          refine VLoop.norm [1, 2, 8, 9, 10, 28, 29, 30] [8, 28] ?_
          repeat' (conv => whnf); first | (apply And.intro; · first | exact pure_p _ | exact pure_of rfl) | fail
          all_goals (conv => whnf)
          exact ih (IntKind.i64.wrap (i + 1)) ⟨by omega, by omega⟩ (by omega)
      case neg =>
        cases hh : has l K with
        | true =>
          rw [hh] at m1 m2
          repeat' (conv => whnf); first
           | (refine bcase_of (fun hr => ?_) (fun hr => ?_) <;> (try simp only [decide_eq_true_eq, decide_eq_false_iff_not, ge_iff_le] at hr) <;> (try (exfalso; first | omega | (simp at hr; done))))
           | (apply And.intro; · first | exact Nat.le_of_ble_eq_true rfl | (show indep _ _ = true; kernel_rfl) | decide | exact pure_p _ | exact allOne_of rfl | exact ⟨hi, h2⟩ | exact of_decide_eq_true rfl)
           | (apply Exists.intro; apply And.intro; · first | exact rfl | exact pairs_ok l hl.len | exact m1 | exact m2 | exact c9 | exact rlay_ok l hl.len K v | exact put_full l hl K v hp | exact lmade_full (lay l K v) hp | exact drop_ok l hl K hh | exact lmade_ok (out l K) (hl.out K).len | exact hlk)
           | fail
          all_goals (conv => whnf)
          refine VLoop.norm [1, 2, 8, 9, 10, 28, 29, 30] [8, 28] ?_
          repeat' (conv => whnf); first | (apply And.intro; · first | exact pure_p _ | exact pure_of rfl) | fail
          all_goals (conv => whnf)
          exact ih (IntKind.i64.wrap (i + 1)) ⟨by omega, by omega⟩ (by omega)
        | false =>
          rw [hh] at m1 m2
          repeat' (conv => whnf); first
           | (refine bcase_of (fun hr => ?_) (fun hr => ?_) <;> (try simp only [decide_eq_true_eq, decide_eq_false_iff_not, ge_iff_le] at hr) <;> (try (exfalso; first | omega | (simp at hr; done))))
           | (apply And.intro; · first | exact Nat.le_of_ble_eq_true rfl | (show indep _ _ = true; kernel_rfl) | decide | exact pure_p _ | exact allOne_of rfl | exact ⟨hi, h2⟩ | exact of_decide_eq_true rfl)
           | (apply Exists.intro; apply And.intro; · first | exact rfl | exact pairs_ok l hl.len | exact m1 | exact m2 | exact c9 | exact rlay_ok l hl.len K v | exact put_full l hl K v hp | exact lmade_full (lay l K v) hp | exact drop_no l hl K hh | exact lmade_no (out l K) | exact hlk)
           | fail
          all_goals (conv => whnf)
          refine VLoop.norm [1, 2, 8, 9, 10, 28, 29, 30] [8, 28] ?_
          repeat' (conv => whnf); first | (apply And.intro; · first | exact pure_p _ | exact pure_of rfl) | fail
          all_goals (conv => whnf)
          exact ih (IntKind.i64.wrap (i + 1)) ⟨by omega, by omega⟩ (by omega)
    case neg =>
      obtain ⟨K, hK⟩ : ∃ z, z = k := ⟨_, rfl⟩
      subst hK
      have m1 := rhas_ok l hl.len K
      have m2 := find_ok l hl K
      have c9 := rout_ok l hl K
      generalize hrk : rank l K = rk at m1 m2
      by_cases hp : (lay l K v).length ≤ 6
      case pos =>
        cases hh : has l K with
        | true =>
          rw [hh] at m1 m2
          repeat' (conv => whnf); first
           | (refine bcase_of (fun hr => ?_) (fun hr => ?_) <;> (try simp only [decide_eq_true_eq, decide_eq_false_iff_not, ge_iff_le] at hr) <;> (try (exfalso; first | omega | (simp at hr; done))))
           | (apply And.intro; · first | exact Nat.le_of_ble_eq_true rfl | (show indep _ _ = true; kernel_rfl) | decide | exact pure_p _ | exact allOne_of rfl | exact ⟨hi, h2⟩ | exact of_decide_eq_true rfl)
           | (apply Exists.intro; apply And.intro; · first | exact rfl | exact pairs_ok l hl.len | exact m1 | exact m2 | exact c9 | exact rlay_ok l hl.len K v | exact put_ok l hl K v hp | exact lmade_ok (lay l K v) hp | exact drop_ok l hl K hh | exact lmade_ok (out l K) (hl.out K).len)
           | fail
          all_goals (conv => whnf)
          refine VLoop.norm [1, 2, 8, 9, 10, 28, 29, 30] [8, 28] ?_
          repeat' (conv => whnf); first | (apply And.intro; · first | exact pure_p _ | exact pure_of rfl) | fail
          all_goals (conv => whnf)
          exact ih (IntKind.i64.wrap (i + 1)) ⟨by omega, by omega⟩ (by omega)
        | false =>
          rw [hh] at m1 m2
          repeat' (conv => whnf); first
           | (refine bcase_of (fun hr => ?_) (fun hr => ?_) <;> (try simp only [decide_eq_true_eq, decide_eq_false_iff_not, ge_iff_le] at hr) <;> (try (exfalso; first | omega | (simp at hr; done))))
           | (apply And.intro; · first | exact Nat.le_of_ble_eq_true rfl | (show indep _ _ = true; kernel_rfl) | decide | exact pure_p _ | exact allOne_of rfl | exact ⟨hi, h2⟩ | exact of_decide_eq_true rfl)
           | (apply Exists.intro; apply And.intro; · first | exact rfl | exact pairs_ok l hl.len | exact m1 | exact m2 | exact c9 | exact rlay_ok l hl.len K v | exact put_ok l hl K v hp | exact lmade_ok (lay l K v) hp | exact drop_no l hl K hh | exact lmade_no (out l K))
           | fail
          all_goals (conv => whnf)
          refine VLoop.norm [1, 2, 8, 9, 10, 28, 29, 30] [8, 28] ?_
          repeat' (conv => whnf); first | (apply And.intro; · first | exact pure_p _ | exact pure_of rfl) | fail
          all_goals (conv => whnf)
          exact ih (IntKind.i64.wrap (i + 1)) ⟨by omega, by omega⟩ (by omega)
      case neg =>
        cases hh : has l K with
        | true =>
          rw [hh] at m1 m2
          repeat' (conv => whnf); first
           | (refine bcase_of (fun hr => ?_) (fun hr => ?_) <;> (try simp only [decide_eq_true_eq, decide_eq_false_iff_not, ge_iff_le] at hr) <;> (try (exfalso; first | omega | (simp at hr; done))))
           | (apply And.intro; · first | exact Nat.le_of_ble_eq_true rfl | (show indep _ _ = true; kernel_rfl) | decide | exact pure_p _ | exact allOne_of rfl | exact ⟨hi, h2⟩ | exact of_decide_eq_true rfl)
           | (apply Exists.intro; apply And.intro; · first | exact rfl | exact pairs_ok l hl.len | exact m1 | exact m2 | exact c9 | exact rlay_ok l hl.len K v | exact put_full l hl K v hp | exact lmade_full (lay l K v) hp | exact drop_ok l hl K hh | exact lmade_ok (out l K) (hl.out K).len)
           | fail
          all_goals (conv => whnf)
          refine VLoop.norm [1, 2, 8, 9, 10, 28, 29, 30] [8, 28] ?_
          repeat' (conv => whnf); first | (apply And.intro; · first | exact pure_p _ | exact pure_of rfl) | fail
          all_goals (conv => whnf)
          exact ih (IntKind.i64.wrap (i + 1)) ⟨by omega, by omega⟩ (by omega)
        | false =>
          rw [hh] at m1 m2
          repeat' (conv => whnf); first
           | (refine bcase_of (fun hr => ?_) (fun hr => ?_) <;> (try simp only [decide_eq_true_eq, decide_eq_false_iff_not, ge_iff_le] at hr) <;> (try (exfalso; first | omega | (simp at hr; done))))
           | (apply And.intro; · first | exact Nat.le_of_ble_eq_true rfl | (show indep _ _ = true; kernel_rfl) | decide | exact pure_p _ | exact allOne_of rfl | exact ⟨hi, h2⟩ | exact of_decide_eq_true rfl)
           | (apply Exists.intro; apply And.intro; · first | exact rfl | exact pairs_ok l hl.len | exact m1 | exact m2 | exact c9 | exact rlay_ok l hl.len K v | exact put_full l hl K v hp | exact lmade_full (lay l K v) hp | exact drop_no l hl K hh | exact lmade_no (out l K))
           | fail
          all_goals (conv => whnf)
          refine VLoop.norm [1, 2, 8, 9, 10, 28, 29, 30] [8, 28] ?_
          repeat' (conv => whnf); first | (apply And.intro; · first | exact pure_p _ | exact pure_of rfl) | fail
          all_goals (conv => whnf)
          exact ih (IntKind.i64.wrap (i + 1)) ⟨by omega, by omega⟩ (by omega)
theorem tells_ok (b : Blk) (k v : Int) : PTriple Try.prog gv 3 [bV b, u32V k, i64V v] (.bool true) := by
  cases h : goodB b with
  | false => exact tells_bad b h k v
  | true =>
    obtain ⟨l, hl, rfl⟩ := of_goodB h
    exact tells_good l hl k v
end Go.Proofs.Ytmmenojmldollaa
