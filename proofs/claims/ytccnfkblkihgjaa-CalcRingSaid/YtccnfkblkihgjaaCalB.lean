/- Chapter 1: what its functions come to (CalB). -/
import Derived.Test.YtccnfkblkihgjaaCalA
set_option linter.unusedVariables false
set_option linter.unusedSimpArgs false
namespace Go.Proofs.Ytccnfkblkihgjaa
open Go Go.Vm
set_option maxRecDepth 100000
set_option maxHeartbeats 4000000
set_option linter.unusedSimpArgs false
theorem ok34 (x y c : Int) (hx : 0 ≤ x ∧ x < 18446744073709551616) (hy : 0 ≤ y ∧ y < 18446744073709551616) (hc0 : 0 ≤ c) (hc : c ≤ 1) :
    PTriple Try.prog gv 34 [u64V x, u64V y, u64V c] (.tup [u64V ((x - y - c) % 18446744073709551616), u64V (if x < y + c then 1 else 0)]) :=
  ok_sub64 Try.func34 (by kernel_rfl) (by kernel_rfl) (by kernel_rfl) (by kernel_rfl) x y c hx hy hc0 hc
theorem ok35 (x y c : Int) (hx : 0 ≤ x) (hy : 0 ≤ y) (hc0 : 0 ≤ c) (hc : c ≤ 1) :
    PTriple Try.prog gv 35 [u64V x, u64V y, u64V c] (.tup [u64V ((x + y + c) % 18446744073709551616), u64V ((x + y + c) / 18446744073709551616)]) :=
  ok_add64 Try.func35 (by kernel_rfl) (by kernel_rfl) (by kernel_rfl) (by kernel_rfl) x y c hx hy hc0 hc
theorem wrapUI (x : Int) : IntKind.u64.wrap (IntKind.i64.wrap x) = x % 18446744073709551616 := by
  rw [wrapU, wrapI]; split <;> omega
theorem wrap_congr {x y : Int} (h : x % 18446744073709551616 = y % 18446744073709551616) : IntKind.i64.wrap x = IntKind.i64.wrap y := by
  rw [wrapI, wrapI, h]
theorem wide_eq {n x y : Int} (h1 : x % 18446744073709551616 = n / 18446744073709551616 % 18446744073709551616) (h2 : y = n % 18446744073709551616) : V.agg [.int .i64 (IntKind.i64.wrap x), .int .u64 y] = wide n := by
  unfold wide
  rw [wrap_congr h1, h2]
theorem abs_mul_nn {a b : Int} (ha : a < 0) (hb : b < 0) : a * b = (a.natAbs : Int) * b.natAbs := by
  rw [show (a.natAbs : Int) = -a by omega, show (b.natAbs : Int) = -b by omega, Int.neg_mul_neg]
theorem abs_mul_pp {a b : Int} (ha : ¬ a < 0) (hb : ¬ b < 0) : a * b = (a.natAbs : Int) * b.natAbs := by
  rw [show (a.natAbs : Int) = a by omega, show (b.natAbs : Int) = b by omega]
theorem abs_mul_np {a b : Int} (ha : a < 0) (hb : ¬ b < 0) : a * b = -((a.natAbs : Int) * b.natAbs) := by
  rw [show (a.natAbs : Int) = -a by omega, show (b.natAbs : Int) = b by omega, Int.neg_mul, Int.neg_neg]
theorem abs_mul_pn {a b : Int} (ha : ¬ a < 0) (hb : b < 0) : a * b = -((a.natAbs : Int) * b.natAbs) := by
  rw [show (a.natAbs : Int) = a by omega, show (b.natAbs : Int) = -b by omega, Int.mul_neg, Int.neg_neg]
theorem abs_mul_bnd {a b : Int} (ha : in64 a) (hb : in64 b) : 0 ≤ (a.natAbs : Int) * b.natAbs ∧ (a.natAbs : Int) * b.natAbs ≤ 85070591730234615865843651857942052864 := by
  unfold in64 at ha hb
  refine ⟨Int.mul_nonneg (by omega) (by omega), ?_⟩
  have := Int.mul_le_mul (show (a.natAbs : Int) ≤ 9223372036854775808 by omega) (show (b.natAbs : Int) ≤ 9223372036854775808 by omega) (by omega) (by decide)
  omega
theorem ok25 (n a b : Int) (ha : in64 a) (hb : in64 b) : PTriple Try.prog gv 25 [wide n, i64V a, i64V b] (wide (n + a * b)) := by
  have ha0 := abs_in ha
  have hb0 := abs_in hb
  have hm := abs_mul_bnd ha hb
  refine PTriple.of_body (C := cx) Try.func25 rfl (by kernel_rfl) mixed fun E hE => ?_
  repeat' (conv => whnf); first
   | (refine bcase_of (fun hr => ?_) (fun hr => ?_) <;> (try simp only [decide_eq_true_eq, decide_eq_false_iff_not, gt_iff_lt, bne_iff_ne, ne_eq, beq_iff_eq, bne_eq_false_iff_eq, beq_eq_false_iff_ne] at hr) <;> try (exfalso; first | omega | (simp at hr; done)))
   | (refine And.intro (by first | exact Nat.le_of_ble_eq_true rfl | decide) ?_)
   | (refine And.intro (by show indep _ _ = true; kernel_rfl) ?_)
   | (refine Exists.intro _ (And.intro (by first | exact rfl | exact ok23 _ ha | exact ok23 _ hb | exact ok30 _ _ ha0 hb0 | exact ok34 0 _ 0 (by decide) (by first | decide | (rw [wrapUI]; omega) | omega | (split <;> omega)) (by decide) (by decide) | exact ok34 0 _ _ (by decide) (by first | decide | (rw [wrapUI]; omega) | omega | (split <;> omega)) (by first | decide | (rw [wrapUI]; omega) | omega | (split <;> omega)) (by first | decide | (rw [wrapUI]; omega) | omega | (split <;> omega)) | exact ok35 _ _ _ (by first | decide | (rw [wrapUI]; omega) | omega | (split <;> omega)) (by first | decide | (rw [wrapUI]; omega) | omega | (split <;> omega)) (by first | decide | (rw [wrapUI]; omega) | omega | (split <;> omega)) (by first | decide | (rw [wrapUI]; omega) | omega | (split <;> omega))) ?_))
   | fail
  all_goals (conv => whnf)
  all_goals first
    | have hp := abs_mul_nn ‹a < 0› ‹b < 0›
    | have hp := abs_mul_pp ‹¬a < 0› ‹¬b < 0›
    | have hp := abs_mul_np ‹a < 0› ‹¬b < 0›
    | have hp := abs_mul_pn ‹¬a < 0› ‹b < 0›
  all_goals (show V.agg [.int .i64 (IntKind.i64.wrap _), .int .u64 _] = _)
  all_goals refine wide_eq ?_ ?_
  all_goals rw [hp]
  all_goals try simp only [wrapUI]
  all_goals generalize (a.natAbs : Int) * b.natAbs = m at *
  all_goals ((repeat' split) <;> omega)
theorem zero64 : in64 0 := by unfold in64; decide
theorem one64 : in64 1 := by unfold in64; decide
theorem mone64 : in64 (-1) := by unfold in64; decide
theorem pair_of {p : Int × Bool} {b : Bool} (h : p.2 = b) : V.tup [.int .i64 p.1, .bool b] = pairV p := by subst h; rfl
theorem shr63 (x : Int) : x.fdiv (2 ^ min (63 : Int).toNat IntKind.i64.bits) = x / 9223372036854775808 := by
  have : (2 : Int) ^ min (63 : Int).toNat IntKind.i64.bits = 9223372036854775808 := rfl
  rw [this, Int.fdiv_eq_ediv_of_nonneg _ (by decide)]
def in128 (n : Int) : Prop := -170141183460469231731687303715884105728 ≤ n ∧ n < 170141183460469231731687303715884105728
theorem ok26 (n : Int) (h : in128 n) : PTriple Try.prog gv 26 [wide n] (pairV (fit n)) := by
  unfold in128 at h
  refine PTriple.of_body (C := cx) Try.func26 rfl (by kernel_rfl) mixed fun E hE => ?_
  repeat' (conv => whnf); first
   | (refine bcase_of (fun hr => ?_) (fun hr => ?_) <;> (try simp only [decide_eq_true_eq, decide_eq_false_iff_not, gt_iff_lt, bne_iff_ne, ne_eq, beq_iff_eq, bne_eq_false_iff_eq, beq_eq_false_iff_ne] at hr) <;> try (exfalso; first | omega | (simp at hr; done)))
   | (refine And.intro (by first | exact Nat.le_of_ble_eq_true rfl | decide | decide) ?_)
   | (refine And.intro (by show indep _ _ = true; kernel_rfl) ?_)
   | (refine Exists.intro _ (And.intro (by first | exact rfl) ?_))
   | fail
  all_goals (conv => whnf)
  all_goals (rw [shr63] at hr; simp only [wrapI] at hr)
  · show pairV (0, false) = _
    refine congrArg pairV ?_
    unfold fit
    rw [if_neg]
    intro h1
    apply hr
    (repeat' split) <;> omega
  · show pairV (IntKind.i64.wrap (n % 18446744073709551616), true) = _
    refine congrArg pairV ?_
    unfold fit
    have : -9223372036854775808 ≤ n ∧ n < 9223372036854775808 := by
      revert hr; (repeat' split) <;> intro hr <;> omega
    rw [if_pos this]
    refine congrArg (fun x => (x, true)) ?_
    rw [wrapI]; split <;> omega
abbrev i64s (l : List Int) : V := .lst 1 (l.map fun x => [i64V x])
theorem pure_i64s (l : List Int) : PureEs (l.map fun x => [i64V x]) := fun e he v hv => by
  obtain ⟨x, _, rfl⟩ := List.mem_map.1 he
  cases hv with
  | head => exact .int _ _
  | tail _ h => cases h
theorem sum_take {l : List Int} {m : Nat} {x : Int} (h : l[m]? = some x) : (l.take (m + 1)).sum = (l.take m).sum + x := by
  obtain ⟨hl, rfl⟩ := List.getElem?_eq_some_iff.1 h
  rw [List.take_succ_eq_append_getElem hl, List.sum_append]; simp
theorem sum_bnd : ∀ (l : List Int), (∀ x ∈ l, in64 x) → -9223372036854775808 * (l.length : Int) ≤ l.sum ∧ l.sum ≤ 9223372036854775808 * (l.length : Int)
  | [], _ => by simp
  | x :: r, h => by
    have h1 := h x List.mem_cons_self
    have h2 := sum_bnd r fun y hy => h y (List.mem_cons_of_mem _ hy)
    unfold in64 at h1
    simp only [List.sum_cons, List.length_cons]
    omega
def boxW (n : Int) : List V := [.int .i64 (IntKind.i64.wrap (n / 18446744073709551616)), .int .u64 (n % 18446744073709551616)]
def st10 (l : List Int) (i n : Int) : St Empty := mkSt 21 [(4, .ref (5, 1) 0), (7, i64s l), (8, i64V (l.map fun x => [i64V x]).length), (9, i64V i)] [(4, .box (boxW n))] []
theorem ok10 (l : List Int) (hl : l.length ≤ 2000) (hi : ∀ x ∈ l, in64 x) : PTriple Try.prog gv 10 [i64s l] (pairV (fit l.sum)) := by
  have hlen : (l.map fun x => [i64V x]).length = l.length := by simp
  refine PTriple.of_body (C := cx) Try.func10 rfl (by kernel_rfl) mixed fun E hE => ?_
  conv => whnf
  refine VLoop.norm [4, 7, 8, 9] [4] ?_
  conv => whnf
  refine ⟨pure_i64s l, ?_⟩
  conv => whnf
  refine VLoop.inv (fun x : Int × Int => st10 l x.1 x.2) (fun x => 0 ≤ x.1 ∧ x.1 ≤ l.length ∧ x.2 = (l.take x.1.toNat).sum) (fun x => l.length - x.1.toNat) (0, 0) ⟨by decide, by simp, by simp⟩ rfl ?_
  rintro ⟨i, n⟩ ⟨h1, h2, h3⟩ ih
  simp only at h1 h2 h3 ih
  show VLoop cx E _ (st10 l i n) _
  refine VLoop.unroll hE mixed ?_
  conv => whnf
  refine bcase_of (fun hr => ?_) (fun hr => ?_)
  · have hn : i < l.length := by simp at hr; omega
    have hw : IntKind.i64.wrap (i + 1) = i + 1 := wrap64 (by omega) (by omega)
    obtain ⟨x, hx⟩ : ∃ x, l[i.toNat]? = some x := ⟨_, List.getElem?_eq_getElem (by omega)⟩
    have hx64 : in64 x := hi x (List.mem_of_getElem? hx)
    repeat' (conv => whnf); first
     | (refine bcase_of (fun hr => ?_) (fun hr => ?_) <;> (try simp only [decide_eq_true_eq, decide_eq_false_iff_not, gt_iff_lt, bne_iff_ne, ne_eq, beq_iff_eq, bne_eq_false_iff_eq, beq_eq_false_iff_ne] at hr) <;> try (exfalso; first | omega | (simp at hr; done)))
     | (refine And.intro (by first | exact Nat.le_of_ble_eq_true rfl | decide | exact ⟨by omega, by rw [hlen]; omega⟩) ?_)
     | (refine And.intro (by show indep _ _ = true; kernel_rfl) ?_)
     | (refine Exists.intro _ (And.intro (by first | exact rfl | exact ok25 n x 1 hx64 one64 | exact (show lget _ _ = some [i64V x] by rw [lget_eq, List.getElem?_map, hx]; rfl)) ?_))
     | fail
    all_goals (conv => whnf)
    all_goals refine VLoop.norm [4, 7, 8, 9] [4] ?_
    all_goals (conv => whnf)
    all_goals refine ⟨pure_i64s l, ?_⟩
    all_goals (conv => whnf)
    all_goals refine ih (IntKind.i64.wrap (i + 1), n + x * 1) ?_ ?_
    all_goals simp only [hw]
    · refine ⟨by omega, by omega, ?_⟩
      rw [show (i + 1).toNat = i.toNat + 1 by omega, sum_take hx, h3, Int.mul_one]
    · omega
  · have hn : i = l.length := by simp at hr; omega
    have hs : n = l.sum := by rw [h3, hn]; simp
    have hb := sum_bnd l hi
    have h128 : in128 n := by unfold in128; omega
    clear ih
    subst hs
    repeat' (conv => whnf); first
     | (refine bcase_of (fun hr => ?_) (fun hr => ?_) <;> skip)
     | (refine And.intro (by first | exact Nat.le_of_ble_eq_true rfl | decide) ?_)
     | (refine And.intro (by show indep _ _ = true; kernel_rfl) ?_)
     | (refine Exists.intro _ (And.intro (by first | exact rfl | exact ok26 l.sum h128) ?_))
     | fail
    all_goals (conv => whnf)
    all_goals exact pair_of hr
theorem ok15 (a b : Int) (ha : in64 a) (hb : in64 b) : PTriple Try.prog gv 15 [i64V a, i64V b] (pairV (fit (a + b))) := by
  have hab : ∀ x ∈ [a, b], in64 x := by
    intro x hx
    simp at hx
    rcases hx with rfl | rfl <;> assumption
  refine PTriple.of_body (C := cx) Try.func15 rfl (by kernel_rfl) mixed fun E hE => ?_
  repeat' (conv => whnf); first
   | (refine bcase_of (fun hr => ?_) (fun hr => ?_) <;> skip)
   | (refine And.intro (by first | exact Nat.le_of_ble_eq_true rfl | decide | exact ⟨Nat.le_of_ble_eq_true rfl, Nat.le_of_ble_eq_true rfl⟩ | exact pure_i64s [a, b]) ?_)
   | (refine And.intro (by show indep _ _ = true; kernel_rfl) ?_)
   | (refine Exists.intro _ (And.intro (by first | exact rfl | exact ok10 [a, b] (by simp) hab) ?_))
   | fail
  all_goals (conv => whnf)
  all_goals exact (pair_of hr).trans (congrArg (fun x => pairV (fit x)) (show [a, b].sum = a + b by simp))
theorem ok16 (a b : Int) (ha : in64 a) (hb : in64 b) : PTriple Try.prog gv 16 [i64V a, i64V b] (pairV (fit (a - b))) := by
  have h128 : in128 (0 + a * 1 + b * -1) := by unfold in64 at ha hb; unfold in128; omega
  refine PTriple.of_body (C := cx) Try.func16 rfl (by kernel_rfl) mixed fun E hE => ?_
  repeat' (conv => whnf); first
   | (refine bcase_of (fun hr => ?_) (fun hr => ?_) <;> skip)
   | (refine And.intro (by first | exact Nat.le_of_ble_eq_true rfl | decide) ?_)
   | (refine And.intro (by show indep _ _ = true; kernel_rfl) ?_)
   | (refine Exists.intro _ (And.intro (by first | exact rfl | exact ok25 0 a 1 ha one64 | exact ok25 (0 + a * 1) b (-1) hb mone64 | exact ok26 (0 + a * 1 + b * -1) h128) ?_))
   | fail
  all_goals (conv => whnf)
  all_goals exact (pair_of hr).trans (congrArg (fun x => pairV (fit x)) (show 0 + a * 1 + b * -1 = a - b by omega))
theorem mul_bnd64 {a b : Int} (ha : in64 a) (hb : in64 b) : in128 (a * b) := by
  have h := abs_mul_bnd ha hb
  unfold in128
  by_cases h1 : a < 0 <;> by_cases h2 : b < 0
  · have := abs_mul_nn h1 h2; omega
  · have := abs_mul_np h1 h2; omega
  · have := abs_mul_pn h1 h2; omega
  · have := abs_mul_pp h1 h2; omega
theorem ok17 (a b : Int) (ha : in64 a) (hb : in64 b) : PTriple Try.prog gv 17 [i64V a, i64V b] (pairV (fit (a * b))) := by
  have h128 : in128 (0 + a * b) := by rw [Int.zero_add]; exact mul_bnd64 ha hb
  refine PTriple.of_body (C := cx) Try.func17 rfl (by kernel_rfl) mixed fun E hE => ?_
  repeat' (conv => whnf); first
   | (refine bcase_of (fun hr => ?_) (fun hr => ?_) <;> skip)
   | (refine And.intro (by first | exact Nat.le_of_ble_eq_true rfl | decide) ?_)
   | (refine And.intro (by show indep _ _ = true; kernel_rfl) ?_)
   | (refine Exists.intro _ (And.intro (by first | exact rfl | exact ok25 0 a b ha hb | exact ok26 (0 + a * b) h128) ?_))
   | fail
  all_goals (conv => whnf)
  all_goals exact (pair_of hr).trans (congrArg (fun x => pairV (fit x)) (Int.zero_add (a * b)))
theorem ok18 (a : Int) (ha : in64 a) : PTriple Try.prog gv 18 [i64V a] (pairV (fit (-a))) := by
  refine PTriple.of_body (C := cx) Try.func18 rfl (by kernel_rfl) mixed fun E hE => ?_
  repeat' (conv => whnf); first
   | (refine bcase_of (fun hr => ?_) (fun hr => ?_) <;> skip)
   | (refine And.intro (by first | exact Nat.le_of_ble_eq_true rfl | decide) ?_)
   | (refine And.intro (by show indep _ _ = true; kernel_rfl) ?_)
   | (refine Exists.intro _ (And.intro (by first | exact rfl | exact ok16 0 a zero64 ha) ?_))
   | fail
  all_goals (conv => whnf)
  all_goals exact (pair_of hr).trans (congrArg (fun x => pairV (fit x)) (Int.zero_sub a))
end Go.Proofs.Ytccnfkblkihgjaa
