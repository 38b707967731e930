/- Chapter 1: what its functions come to (CalE). -/
import Derived.Test.YtccnfkblkihgjaaCalD
set_option linter.unusedVariables false
set_option linter.unusedSimpArgs false
namespace Go.Proofs.Ytccnfkblkihgjaa
open Go Go.Vm
set_option maxRecDepth 100000
set_option maxHeartbeats 4000000
set_option linter.unusedSimpArgs false
def st11 (l : List Int) (i n : Int) : St Empty := mkSt 23 [(0, i64s l), (4, .ref (5, 1) 0), (5, i64V i)] [(4, .box [.bool (decide (n < 0)), .int .u64 ((n.natAbs : Int) / 18446744073709551616), .int .u64 ((n.natAbs : Int) % 18446744073709551616)])] []
theorem abs127 {n : Int} (h : in64 n) : (n.natAbs : Int) < 170141183460469231731687303715884105728 := by unfold in64 at h; omega
theorem ok11 (l : List Int) (hl : l.length ≤ 2000) (hi : ∀ x ∈ l, in64 x) : PTriple Try.prog gv 11 [i64s l] (pairV (fit l.sum)) := by
  have hlen : (l.map fun x => [i64V x]).length = l.length := by simp
  refine PTriple.of_body (C := cx) Try.func11 rfl (by kernel_rfl) mixed fun E hE => ?_
  conv => whnf
  refine VLoop.norm [0, 4, 5] [4] ?_
  conv => whnf
  refine ⟨pure_i64s l, ?_⟩
  conv => whnf
  refine VLoop.inv (fun x : Int × Int => st11 l x.1 x.2) (fun x => 0 ≤ x.1 ∧ x.1 ≤ l.length ∧ x.2 = (l.take x.1.toNat).sum) (fun x => l.length - x.1.toNat) (0, 0) ⟨by decide, by simp, by simp⟩ rfl ?_
  rintro ⟨i, n⟩ ⟨h1, h2, h3⟩ ih
  simp only at h1 h2 h3 ih
  show VLoop cx E _ (st11 l i n) _
  refine VLoop.unroll hE mixed ?_
  conv => whnf
  refine bcase_of (fun hr => ?_) (fun hr => ?_)
  · have hn : i < l.length := by simp at hr; omega
    have hw : IntKind.i64.wrap (i + 1) = i + 1 := wrap64 (by omega) (by omega)
    obtain ⟨x, hx⟩ : ∃ x, l[i.toNat]? = some x := ⟨_, List.getElem?_eq_getElem (by omega)⟩
    have hx64 : in64 x := hi x (List.mem_of_getElem? hx)
    have hbn : (n.natAbs : Int) < 170141183460469231731687303715884105728 := by
      have := sum_bnd (l.take i.toNat) fun y hy => hi y (List.mem_of_mem_take hy)
      have hlt : (l.take i.toNat).length ≤ 2000 := by simp; omega
      rw [← h3] at this
      omega
    repeat' (conv => whnf); first
     | (refine bcase_of (fun hr => ?_) (fun hr => ?_) <;> (try simp only [decide_eq_true_eq, decide_eq_false_iff_not, gt_iff_lt, bne_iff_ne, ne_eq, beq_iff_eq, bne_eq_false_iff_eq, beq_eq_false_iff_ne] at hr) <;> try (exfalso; first | omega | (simp at hr; done) | (rename_i hq; rw [hq] at hr; cases hr; done) | (simp_all; done)))
     | (refine And.intro (by first | exact Nat.le_of_ble_eq_true rfl | decide | exact ⟨by omega, by rw [hlen]; omega⟩) ?_)
     | (refine And.intro (by show indep _ _ = true; kernel_rfl) ?_)
     | (refine Exists.intro _ (And.intro (by first | exact rfl | exact ok21 x hx64 | exact ok20 n x _ _ rfl rfl hbn (abs127 hx64) | exact (show lget _ _ = some [i64V x] by rw [lget_eq, List.getElem?_map, hx]; rfl)) ?_))
     | fail
    all_goals (conv => whnf)
    all_goals refine VLoop.norm [0, 4, 5] [4] ?_
    all_goals (conv => whnf)
    all_goals refine ⟨pure_i64s l, ?_⟩
    all_goals (conv => whnf)
    all_goals refine ih (IntKind.i64.wrap (i + 1), n + x) ?_ ?_
    all_goals simp only [hw]
    · refine ⟨by omega, by omega, ?_⟩
      rw [show (i + 1).toNat = i.toNat + 1 by omega, sum_take hx, h3]
    · omega
  · have hn : i = l.length := by simp at hr; omega
    have hs : n = l.sum := by rw [h3, hn]; simp
    clear ih
    subst hs
    repeat' (conv => whnf); first
     | (refine bcase_of (fun hr => ?_) (fun hr => ?_) <;> skip)
     | (refine And.intro (by first | exact Nat.le_of_ble_eq_true rfl | decide) ?_)
     | (refine And.intro (by show indep _ _ = true; kernel_rfl) ?_)
     | (refine Exists.intro _ (And.intro (by first | exact rfl | exact ok27 l.sum _ rfl) ?_))
     | fail
    all_goals (conv => whnf)
    all_goals exact pair_of hr
theorem fit_is2 {k j : Int} {b : Bool} (e : j = k) (h : (fit j).2 = b) : fit k = ((fit j).1, b) := by subst e; subst h; rfl
theorem fit_true {k : Int} (h : (fit k).2 = true) : (fit k).1 = k := by
  unfold fit at *; split at h <;> simp_all
theorem fit_in (k : Int) : in64 (fit k).1 := by
  unfold fit in64; split <;> simp_all
theorem fit_of {k : Int} (h : in64 k) : fit k = (k, true) := by unfold fit in64 at *; rw [if_pos h]
theorem ok19 (v : Int) (o : Bool) (k : Int) (s : Bool) (hs : decide (k < 0) = s) (h : fit k = (v, o)) : PTriple Try.prog gv 19 [i64V v, .bool o, smagB s k] (.bool true) := by
  subst hs
  obtain ⟨rfl, rfl⟩ : (fit k).1 = v ∧ (fit k).2 = o := by rw [h]; exact ⟨rfl, rfl⟩
  clear h
  refine PTriple.of_body (C := cx) Try.func19 rfl (by kernel_rfl) mixed fun E hE => ?_
  repeat' (conv => whnf); first
   | (refine bcase_of (fun hr => ?_) (fun hr => ?_) <;> (try simp only [decide_eq_true_eq, decide_eq_false_iff_not, gt_iff_lt, bne_iff_ne, ne_eq, beq_iff_eq, bne_eq_false_iff_eq, beq_eq_false_iff_ne] at hr) <;> try (exfalso; first | omega | (simp at hr; done) | (rename_i hq; rw [hq] at hr; cases hr; done) | (simp_all; done)))
   | (refine And.intro (by first | exact Nat.le_of_ble_eq_true rfl | decide) ?_)
   | (refine And.intro (by show indep _ _ = true; kernel_rfl) ?_)
   | (refine Exists.intro _ (And.intro (by first | exact rfl | exact ok27 _ _ rfl) ?_))
   | fail
  all_goals (conv => whnf)
  all_goals rfl
theorem in64c (n : Int) (h : (decide (-9223372036854775808 ≤ n) && decide (n < 9223372036854775808)) = true := by decide) : in64 n := by
  simp only [Bool.and_eq_true, decide_eq_true_eq] at h; exact h
theorem in64s3 : ∀ x ∈ [(9223372036854775807 : Int), 1, -1], in64 x := by
  intro x hx
  simp at hx
  rcases hx with rfl | rfl | rfl <;> exact in64c _
theorem ok9  : PTriple Try.prog gv 9 [] (.bool true) := by
  refine PTriple.of_body (C := cx) Try.func9 rfl (by kernel_rfl) mixed fun E hE => ?_
  repeat' (conv => whnf); first
   | (refine bcase_of (fun hr => ?_) (fun hr => ?_) <;> (try simp only [decide_eq_true_eq, decide_eq_false_iff_not, gt_iff_lt, bne_iff_ne, ne_eq, beq_iff_eq, bne_eq_false_iff_eq, beq_eq_false_iff_ne] at hr) <;> try (exfalso; first | omega | (simp at hr; done) | (rename_i hq; rw [hq] at hr; cases hr; done) | (simp_all; done)))
   | (refine And.intro (by first | exact Nat.le_of_ble_eq_true rfl | decide | exact pure_i64s [9223372036854775807, 1, -1]) ?_)
   | (refine And.intro (by show indep _ _ = true; kernel_rfl) ?_)
   | (refine Exists.intro _ (And.intro (by first | exact rfl | exact ok15 9223372036854775807 1 (in64c _) (in64c _) | exact ok10 [9223372036854775807, 1, -1] (by decide) in64s3 | exact ok17 (-3) 5 (in64c _) (in64c _) | exact ok12 3 5 2 8 (in64c _) (in64c _) (in64c _) (in64c _) | exact ok23 (-7) (in64c _)) ?_))
   | fail
  all_goals (conv => whnf)
  all_goals rfl
end Go.Proofs.Ytccnfkblkihgjaa
