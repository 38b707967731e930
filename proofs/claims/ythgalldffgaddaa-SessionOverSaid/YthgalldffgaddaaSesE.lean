/- Chapter 24: what its functions come to (SesE). -/
import Derived.Test.YthgalldffgaddaaSesD
set_option linter.unusedVariables false
set_option linter.unusedSimpArgs false
namespace Go.Proofs.Ythgalldffgaddaa
open Go Go.Vm
set_option maxRecDepth 100000
set_option maxHeartbeats 4000000
set_option linter.unusedSimpArgs false
abbrev u8V (n : Int) : V := .int .u8 n
abbrev bytesV (l : List Int) : V := .lst 1 (l.map fun x => [u8V x])
theorem pure_bytes (l : List Int) : PureEs (l.map fun x => [u8V x]) := fun e he v hv => by
  obtain ⟨x, _, rfl⟩ := List.mem_map.1 he
  cases hv with
  | head => exact .int _ _
  | tail _ h => cases h
def st4 (a b c d back : Int) (ts : List Int) (k n now ver till s i : Int) : St Empty := mkSt 158 [(1, u8V back), (2, .ref (3, 1) 0), (5, i64V k), (6, i64V n), (7, .ref (33, 1) 0), (8, .ref (9, 1) 0), (10, i64V s), (11, i64V i)]
  [(2, .box [u8V a, u8V b, u8V c, u8V d, bytesV ts]), (8, .box [i64V 0, i64V 1]), (32, .box (cells k n now ⟨1, true, ver, till⟩ p0 p0 p0 p0 p0))] []
theorem sum_take {l : List Int} {m : Nat} {x : Int} (h : l[m]? = some x) : (l.take (m + 1)).sum = (l.take m).sum + x := by
  obtain ⟨hl, rfl⟩ := List.getElem?_eq_some_iff.1 h
  rw [List.take_succ_eq_append_getElem hl, List.sum_append]; simp
theorem sum_bnd8 : ∀ (l : List Int), (∀ x ∈ l, 0 ≤ x ∧ x ≤ 255) → 0 ≤ l.sum ∧ l.sum ≤ 255 * (l.length : Int)
  | [], _ => by simp
  | x :: r, h => by
    have h1 := h x List.mem_cons_self
    have h2 := sum_bnd8 r fun y hy => h y (List.mem_cons_of_mem _ hy)
    simp only [List.sum_cons, List.length_cons]
    omega
theorem tick_add (n m : Int) (hn : 0 ≤ n) (hm : 0 ≤ m) (h : n + m ≤ 1099511627776) : tickT n m = n + m := by unfold tickT; omega
theorem over_ok (a b c d back : Int) (ts : List Int) (ha : 0 ≤ a ∧ a ≤ 255) (hb : 0 ≤ b ∧ b ≤ 255) (hc : 0 ≤ c ∧ c ≤ 255) (hd : 0 ≤ d ∧ d ≤ 255) (hk : 0 ≤ back ∧ back ≤ 255) (ht : ∀ x ∈ ts, 0 ≤ x ∧ x ≤ 255) :
    PTriple Try.prog gv 4 [.agg [u8V a, u8V b, u8V c, u8V d, bytesV ts], u8V back] (.bool true) := by
  have hlen : (ts.map fun x => [u8V x]).length = ts.length := by simp
  have wa : IntKind.i64.wrap a = a := wrapI64 (by omega) (by omega)
  have wb : IntKind.i64.wrap b = b := wrapI64 (by omega) (by omega)
  have wc : IntKind.i64.wrap c = c := wrapI64 (by omega) (by omega)
  have wd : IntKind.i64.wrap d = d := wrapI64 (by omega) (by omega)
  have wk : IntKind.i64.wrap back = back := wrapI64 (by omega) (by omega)
  have hkk : (IntKind.i64.wrap (2 + (IntKind.i64.wrap a).tmod 7)) = 2 + a % 7 := by rw [wa, Int.tmod_eq_emod_of_nonneg ha.1, wrapI64 (by omega) (by omega)]
  have hnn : (IntKind.i64.wrap (1 + IntKind.i64.wrap b)) = 1 + b := by rw [wb, wrapI64 (by omega) (by omega)]
  have hnw : (tickT 0 (IntKind.i64.wrap back)) = back := by rw [wk, tick_add 0 back (by decide) hk.1 (by omega)]; omega
  refine PTriple.of_body (C := cx) Try.func4 rfl (by kernel_rfl) mixed fun E hE => ?_
  repeat' (conv => whnf); first
   | (refine bcase_of (fun hr => ?_) (fun hr => ?_) <;> (try have hl3 : ts.length ≤ 50 := by simp at hr; omega) <;> try (exfalso; simp at hr; done))
   | (refine And.intro (by first | exact Nat.le_of_ble_eq_true rfl | decide | decide) ?_)
   | (refine And.intro (by show indep _ _ = true; kernel_rfl) ?_)
   | (refine Exists.intro _ (And.intro (by first | exact rfl | exact wakes_ok) ?_))
   | refine ⟨_, _, _, ATriple.call (new_ok (IntKind.i64.wrap (2 + (IntKind.i64.wrap a).tmod 7)) (IntKind.i64.wrap (1 + IntKind.i64.wrap b)) (by rw [hkk]; omega) (by rw [hnn]; omega)) (by rfl) (by rfl) (by rfl), ?_⟩
   | refine ⟨_, _, _, ATriple.call (tick_ok (IntKind.i64.wrap (2 + (IntKind.i64.wrap a).tmod 7)) (IntKind.i64.wrap (1 + IntKind.i64.wrap b)) 0 p0 p0 p0 p0 p0 p0 (IntKind.i64.wrap back) (by decide)) (by rfl) (by rfl) (by rfl), ?_⟩
   | refine ⟨_, _, _, ATriple.call (open_0 (IntKind.i64.wrap (2 + (IntKind.i64.wrap a).tmod 7)) (IntKind.i64.wrap (1 + IntKind.i64.wrap b)) (tickT 0 (IntKind.i64.wrap back)) p0 p0 p0 p0 p0 p0 (IntKind.i64.wrap c) (by rw [wc]; omega) rfl) (by rfl) (by rfl) (by rfl), ?_⟩
   | fail
  all_goals (conv => whnf)
  · rfl
  refine VLoop.norm [1, 2, 5, 6, 7, 8, 10, 11] [2, 8, 32] ?_
  conv => whnf
  refine ⟨pure_bytes ts, ?_⟩
  conv => whnf
  refine VLoop.inv (fun x : Int × Int × Int × Int × Int × Int × Int => st4 a b c d back ts x.1 x.2.1 x.2.2.1 x.2.2.2.1 x.2.2.2.2.1 x.2.2.2.2.2.1 x.2.2.2.2.2.2)
    (fun x => x.1 = 2 + a % 7 ∧ x.2.1 = 1 + b ∧ x.2.2.1 = back + x.2.2.2.2.2.1 ∧ x.2.2.2.1 = c ∧ x.2.2.2.2.1 = back + 1 + b ∧ 0 ≤ x.2.2.2.2.2.2 ∧ x.2.2.2.2.2.2 ≤ ts.length ∧ x.2.2.2.2.2.1 = (ts.take x.2.2.2.2.2.2.toNat).sum)
    (fun x => ts.length - x.2.2.2.2.2.2.toNat) ((IntKind.i64.wrap (2 + (IntKind.i64.wrap a).tmod 7)), (IntKind.i64.wrap (1 + IntKind.i64.wrap b)), (tickT 0 (IntKind.i64.wrap back)), IntKind.i64.wrap c, IntKind.i64.wrap ((tickT 0 (IntKind.i64.wrap back)) + (IntKind.i64.wrap (1 + IntKind.i64.wrap b))), 0, 0) ⟨hkk, hnn, by rw [hnw]; simp, wc, by show IntKind.i64.wrap ((tickT 0 (IntKind.i64.wrap back)) + (IntKind.i64.wrap (1 + IntKind.i64.wrap b))) = back + 1 + b; rw [hnw, hnn, wrapI64 (by omega) (by omega)]; omega, (by decide : (0 : Int) ≤ 0), (by show (0 : Int) ≤ ts.length; omega), by simp⟩ rfl ?_
  rintro ⟨k, n, now, ver, till, s, i⟩ ⟨g1, g2, g3, g4, g5, g6, g7, g8⟩ ih
  simp only at g1 g2 g3 g4 g5 g6 g7 g8 ih
  show VLoop cx E _ (st4 a b c d back ts k n now ver till s i) _
  clear hkk hnn hnw hr
  have hsb : 0 ≤ s ∧ s ≤ 12750 := by
    have := sum_bnd8 (ts.take i.toNat) fun y hy => ht y (List.mem_of_mem_take hy)
    have hlt : (ts.take i.toNat).length ≤ 50 := by simp; omega
    rw [← g8] at this
    omega
  refine VLoop.unroll hE mixed ?_
  conv => whnf
  refine ⟨_, rfl, ?_⟩
  conv => whnf
  refine bcase_of (fun hr => ?_) (fun hr => ?_)
  · have hn : i < ts.length := by simp at hr; omega
    have hw : IntKind.i64.wrap (i + 1) = i + 1 := wrapI64 (by omega) (by omega)
    obtain ⟨x, hx⟩ : ∃ x, ts[i.toNat]? = some x := ⟨_, List.getElem?_eq_getElem (by omega)⟩
    have hx8 := ht x (List.mem_of_getElem? hx)
    have wx : IntKind.i64.wrap x = x := wrapI64 (by omega) (by omega)
    have wsx : IntKind.i64.wrap (s + IntKind.i64.wrap x) = s + x := by rw [wx, wrapI64 (by omega) (by omega)]
    have htk : tickT now (IntKind.i64.wrap x) = now + x := by rw [wx]; exact tick_add _ _ (by omega) (by omega) (by omega)
    repeat' (conv => whnf); first
     | (refine bcase_of (fun hr => ?_) (fun hr => ?_) <;> skip)
     | (refine And.intro (by first | exact Nat.le_of_ble_eq_true rfl | decide | exact ⟨by omega, by rw [hlen]; omega⟩) ?_)
     | (refine And.intro (by show indep _ _ = true; kernel_rfl) ?_)
     | (refine Exists.intro _ (And.intro (by first | exact rfl | exact (show lget _ _ = some [u8V x] by rw [lget_eq, List.getElem?_map, hx]; rfl)) ?_))
     | refine ⟨_, _, _, ATriple.call (tick_ok k n now ⟨1, true, ver, till⟩ p0 p0 p0 p0 p0 (IntKind.i64.wrap x) (by omega)) (by rfl) (by rfl) (by rfl), ?_⟩
     | fail
    all_goals (conv => whnf)
    all_goals refine VLoop.norm [1, 2, 5, 6, 7, 8, 10, 11] [2, 8, 32] ?_
    all_goals (conv => whnf)
    all_goals refine ⟨pure_bytes ts, ?_⟩
    all_goals (conv => whnf)
    all_goals refine ih (k, n, tickT now (IntKind.i64.wrap x), ver, till, IntKind.i64.wrap (s + IntKind.i64.wrap x), IntKind.i64.wrap (i + 1)) ?_ ?_
    · simp only [hw, wsx, htk]
      refine ⟨g1, g2, by omega, g4, g5, by omega, by omega, ?_⟩
      rw [show (i + 1).toNat = i.toNat + 1 by omega, sum_take hx, g8]
    · simp only [hw]; omega
  · have hn : i = ts.length := by simp at hr; omega
    clear ih
    have w1 : IntKind.i64.wrap (IntKind.i64.wrap c + IntKind.i64.wrap d) = c + d := by rw [wc, wd, wrapI64 (by omega) (by omega)]
    have w2 : IntKind.i64.wrap (IntKind.i64.wrap c - IntKind.i64.wrap d) = c - d := by rw [wc, wd, wrapI64 (by omega) (by omega)]
    have w3 : IntKind.i64.wrap (c + d - k) = c + d - k := wrapI64 (by omega) (by omega)
    have w4 : IntKind.i64.wrap (c - d - k) = c - d - k := wrapI64 (by omega) (by omega)
    have w5 : IntKind.i64.wrap (back + s) = back + s := wrapI64 (by omega) (by omega)
    by_cases h1 : n < s
    case pos =>
      repeat' (conv => whnf); first
       | (refine bcase_of (fun hr => ?_) (fun hr => ?_) <;> (try simp only [wa, wb, wc, wd, wk, w5, g4, decide_eq_true_eq, decide_eq_false_iff_not, gt_iff_lt, ge_iff_le, beq_iff_eq, bne_iff_ne, ne_eq, beq_eq_false_iff_ne, bne_eq_false_iff_eq] at hr) <;> try (exfalso; first | omega | (simp at hr; done)))
       | (refine And.intro (by first | exact Nat.le_of_ble_eq_true rfl | decide) ?_)
       | (refine And.intro (by show indep _ _ = true; kernel_rfl) ?_)
       | (refine Exists.intro _ (And.intro (by first | exact rfl | exact wakes_ok) ?_))
       | refine ⟨_, _, _, ATriple.call (read_0x k n now ⟨1, true, ver, till⟩ p0 p0 p0 p0 p0 (IntKind.i64.wrap (IntKind.i64.wrap c + IntKind.i64.wrap d)) rfl (by rw [w1, w3]; simp only; omega)) (by rfl) (by rfl) (by rfl), ?_⟩
       | refine ⟨_, _, _, ATriple.call (read_0x k n now ⟨1, true, ver, till⟩ p0 p0 p0 p0 p0 (IntKind.i64.wrap (IntKind.i64.wrap c - IntKind.i64.wrap d)) rfl (by rw [w2, w4]; simp only; omega)) (by rfl) (by rfl) (by rfl), ?_⟩
       | refine ⟨_, _, _, ATriple.call (now_ok k n now ⟨1, true, ver, till⟩ p0 p0 p0 p0 p0) (by rfl) (by rfl) (by rfl), ?_⟩
       | fail
      all_goals (conv => whnf)
      all_goals rfl
    case neg =>
    by_cases h2 : d < k
    case pos =>
      repeat' (conv => whnf); first
       | (refine bcase_of (fun hr => ?_) (fun hr => ?_) <;> (try simp only [wa, wb, wc, wd, wk, w5, g4, decide_eq_true_eq, decide_eq_false_iff_not, gt_iff_lt, ge_iff_le, beq_iff_eq, bne_iff_ne, ne_eq, beq_eq_false_iff_ne, bne_eq_false_iff_eq] at hr) <;> try (exfalso; first | omega | (simp at hr; done)))
       | (refine And.intro (by first | exact Nat.le_of_ble_eq_true rfl | decide) ?_)
       | (refine And.intro (by show indep _ _ = true; kernel_rfl) ?_)
       | (refine Exists.intro _ (And.intro (by first | exact rfl | exact wakes_ok) ?_))
       | refine ⟨_, _, _, ATriple.call (read_0 k n now ⟨1, true, ver, till⟩ p0 p0 p0 p0 p0 (IntKind.i64.wrap (IntKind.i64.wrap c + IntKind.i64.wrap d)) rfl (by rw [w1, w3]; simp only; omega)) (by rfl) (by rfl) (by rfl), ?_⟩
       | refine ⟨_, _, _, ATriple.call (read_0 k n now ⟨1, true, ver, till⟩ p0 p0 p0 p0 p0 (IntKind.i64.wrap (IntKind.i64.wrap c - IntKind.i64.wrap d)) rfl (by rw [w2, w4]; simp only; omega)) (by rfl) (by rfl) (by rfl), ?_⟩
       | refine ⟨_, _, _, ATriple.call (now_ok k n now ⟨1, true, ver, till⟩ p0 p0 p0 p0 p0) (by rfl) (by rfl) (by rfl), ?_⟩
       | fail
      all_goals (conv => whnf)
      all_goals rfl
    case neg =>
      repeat' (conv => whnf); first
       | (refine bcase_of (fun hr => ?_) (fun hr => ?_) <;> (try simp only [wa, wb, wc, wd, wk, w5, g4, decide_eq_true_eq, decide_eq_false_iff_not, gt_iff_lt, ge_iff_le, beq_iff_eq, bne_iff_ne, ne_eq, beq_eq_false_iff_ne, bne_eq_false_iff_eq] at hr) <;> try (exfalso; first | omega | (simp at hr; done)))
       | (refine And.intro (by first | exact Nat.le_of_ble_eq_true rfl | decide) ?_)
       | (refine And.intro (by show indep _ _ = true; kernel_rfl) ?_)
       | (refine Exists.intro _ (And.intro (by first | exact rfl | exact wakes_ok) ?_))
       | refine ⟨_, _, _, ATriple.call (read_0x k n now ⟨1, true, ver, till⟩ p0 p0 p0 p0 p0 (IntKind.i64.wrap (IntKind.i64.wrap c + IntKind.i64.wrap d)) rfl (by rw [w1, w3]; simp only; omega)) (by rfl) (by rfl) (by rfl), ?_⟩
       | refine ⟨_, _, _, ATriple.call (read_0 k n now ⟨1, true, ver, till⟩ p0 p0 p0 p0 p0 (IntKind.i64.wrap (IntKind.i64.wrap c - IntKind.i64.wrap d)) rfl (by rw [w2, w4]; simp only; omega)) (by rfl) (by rfl) (by rfl), ?_⟩
       | refine ⟨_, _, _, ATriple.call (now_ok k n now ⟨1, true, ver, till⟩ p0 p0 p0 p0 p0) (by rfl) (by rfl) (by rfl), ?_⟩
       | fail
      all_goals (conv => whnf)
      all_goals rfl
end Go.Proofs.Ythgalldffgaddaa
