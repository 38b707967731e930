/- Chapter 1: what its functions come to (CalH). -/
import Derived.Test.YtccnfkblkihgjaaCalE
set_option linter.unusedVariables false
set_option linter.unusedSimpArgs false
namespace Go.Proofs.Ytccnfkblkihgjaa
open Go Go.Vm
set_option maxRecDepth 100000
set_option maxHeartbeats 4000000
set_option linter.unusedSimpArgs false
theorem allOne_one (n : Int) : allOne [[i64V n]] 1 := fun e he => by
  cases he with
  | head => exact ⟨rfl, rfl⟩
  | tail _ h => cases h
theorem pure1 (n : Int) : PureEs [[i64V n]] := pure_i64s [n]
theorem pure_nil : PureEs [] := fun e he => by cases he
theorem room5 {es : List (List V)} {k m : Nat} (h : k = es.length) (hk : k ≤ 3000) (hm : m = 1 := by rfl) : 0 + k ≤ es.length ∧ (false = true → 0 + k = es.length) ∧ (k + m) * 8 ≤ roomBound ∧ k + m ≤ roomBound := by subst hm; exact ⟨by omega, (by intro h; cases h), (by unfold roomBound; omega), (by unfold roomBound; omega)⟩
theorem pure_app {es : List (List V)} (h : PureEs es) (k : Nat) (v : Int) : PureEs ((es.drop 0).take k ++ [[i64V v]]) := fun e he => by
  rcases List.mem_append.1 he with he | he
  · exact h e (List.mem_of_mem_drop (List.mem_of_mem_take he))
  · exact pure1 v e he
theorem rev_drop {l : List Int} {j : Nat} {x : Int} (h : l[j]? = some x) : (l.drop j).reverse = (l.drop (j + 1)).reverse ++ [x] := by
  obtain ⟨hl, rfl⟩ := List.getElem?_eq_some_iff.1 h
  rw [List.drop_eq_getElem_cons hl, List.reverse_cons]
theorem sum_rev : ∀ l : List Int, l.reverse.sum = l.sum
  | [] => rfl
  | x :: r => by rw [List.reverse_cons, List.sum_append, sum_rev r]; simp; omega
theorem addparts (x y s : Int) (h : x + y = s) (h1 : (fit x).2 = true) (h2 : (fit y).2 = true) : PTriple Try.prog gv 15 [i64V (fit x).1, i64V (fit y).1] (pairV (fit s)) := by
  have := ok15 (fit x).1 (fit y).1 (fit_in _) (fit_in _)
  rw [fit_true h1, fit_true h2, h] at this
  rw [fit_true h1, fit_true h2]; exact this
theorem pure_tk (a b : Nat) : PureEs (List.take a (List.drop b ([] : List (List V)))) := by simp; exact pure_nil
theorem ok10nil (a b : Nat) : PTriple Try.prog gv 10 [.lst 1 (List.take a (List.drop b []))] (pairV (fit 0)) := by
  have : List.take a (List.drop b ([] : List (List V))) = [] := by simp
  rw [this]
  exact ok10 [] (by decide) (by intro x hx; cases hx)
def st5 (l : List Int) (k i : Int) (es : List (List V)) (n : Nat) : St Empty := mkSt 99 [(0, i64s l), (5, i64V k), (6, .rsl (48, 1) 1 0 n), (7, i64V i)] [(47, .row 1 es false)] []
theorem ok5 (l : List Int) (at_ : Int) (hi : ∀ x ∈ l, in64 x) : PTriple Try.prog gv 5 [i64s l, i64V at_] (.bool true) := by
  cases l with
  | nil =>
    refine PTriple.of_body (C := cx) Try.func5 rfl (by kernel_rfl) mixed fun E hE => ?_
    have hz : at_.tmod (IntKind.i64.wrap (((([] : List Int).map fun x => [i64V x]).length : Int) + 1)) = 0 := by
      show at_.tmod (IntKind.i64.wrap (0 + 1)) = 0
      rw [show IntKind.i64.wrap (0 + 1) = 1 by decide, Int.tmod_one]
    repeat' (conv => whnf); first
     | (refine bcase_of (fun hr => ?_) (fun hr => ?_) <;> (try rw [hz] at hr) <;> try (exfalso; simp at hr; done))
     | (refine And.intro (by first | exact Nat.le_of_ble_eq_true rfl | decide | exact ⟨by rw [hz]; decide, by rw [hz]; decide⟩ | exact ⟨Nat.le_of_ble_eq_true rfl, Nat.le_of_ble_eq_true rfl, Nat.le_of_ble_eq_true rfl, Nat.le_of_ble_eq_true rfl⟩ | exact pure_nil | exact pure_tk _ _) ?_)
     | (refine And.intro (by show indep _ _ = true; kernel_rfl) ?_)
     | (refine Exists.intro _ (And.intro (by first | exact rfl | exact ok9 | exact ok10nil _ _ | exact ok10 [] (by decide) (by intro x hx; cases hx) | exact PTriple.of_nils (ok10 [] (by decide) (by intro x hx; cases hx)) | exact addparts 0 0 0 rfl rfl rfl) ?_))
     | refine VLoop.unroll hE mixed ?_
     | fail
    all_goals (conv => whnf)
    all_goals rfl
  | cons a r =>
    refine PTriple.of_body (C := cx) Try.func5 rfl (by kernel_rfl) mixed fun E hE => ?_
    have hl0 : 0 < (a :: r).length := by simp
    generalize (a :: r) = l at *
    have hlen : (l.map fun x => [i64V x]).length = l.length := by simp
    by_cases hbig : l.length ≤ 2000
    case neg =>
      repeat' (conv => whnf); first
       | (refine bcase_of (fun hr => ?_) (fun hr => ?_) <;> try (exfalso; simp only [hlen, decide_eq_false_iff_not] at hr; omega))
       | (refine And.intro (by first | exact Nat.le_of_ble_eq_true rfl | decide) ?_)
       | (refine And.intro (by show indep _ _ = true; kernel_rfl) ?_)
       | (refine Exists.intro _ (And.intro (by first | exact rfl | exact ok9) ?_))
       | fail
      all_goals (conv => whnf)
      all_goals rfl
    case pos =>
    have hw1 : IntKind.i64.wrap (l.length + 1) = l.length + 1 := wrap64 (by omega) (by omega)
    have hT : -(l.length : Int) ≤ (at_.tmod (IntKind.i64.wrap (l.length + 1))) ∧ (at_.tmod (IntKind.i64.wrap (l.length + 1))) ≤ l.length := by
      rw [hw1]
      have h1 := Int.tmod_lt_of_pos at_ (show 0 < (l.length : Int) + 1 by omega)
      have h2 := Int.lt_tmod_of_pos at_ (show 0 < (l.length : Int) + 1 by omega)
      omega
    refine cutLoops (C := cx) (E := E) (b := ?b) (K := ?K) (fun x : Int × Int × List (List V) × Nat => st5 l x.1 x.2.1 x.2.2.1 x.2.2.2) (fun x => -1 ≤ x.2.1 ∧ x.2.1 < l.length ∧ x.2.2.2 = x.2.2.1.length ∧ (x.2.2.2 : Int) = l.length - 1 - x.2.1 ∧ x.2.2.1 = ((l.drop (x.2.1 + 1).toNat).reverse).map (fun y => [i64V y]) ∧ 0 ≤ x.1 ∧ x.1 ≤ l.length) (fun key => ?m) ?l
    case m =>
      obtain ⟨x, hx⟩ : ∃ x, l[l.length - 1]? = some x := ⟨_, List.getElem?_eq_getElem (by omega)⟩
      have e3 : IntKind.i64.wrap (l.length - 1) = l.length - 1 := wrap64 (by omega) (by omega)
      have e4 : IntKind.i64.wrap (IntKind.i64.wrap (l.length - 1) - 1) = l.length - 2 := by rw [e3]; rw [wrap64 (by omega) (by omega)]; omega
      have hneg : (at_.tmod (IntKind.i64.wrap (l.length + 1))) < 0 → IntKind.i64.wrap (0 - (at_.tmod (IntKind.i64.wrap (l.length + 1)))) = 0 - (at_.tmod (IntKind.i64.wrap (l.length + 1))) := fun h => wrap64 (by omega) (by omega)
      repeat' (conv => whnf); first
       | (refine bcase_of (fun hr => ?_) (fun hr => ?_) <;> (try simp only [hlen, decide_eq_false_iff_not, decide_eq_true_eq] at hr) <;> try (exfalso; first | omega | (rw [e3] at hr; omega)))
       | (refine And.intro (by first | exact Nat.le_of_ble_eq_true rfl | decide | exact (show IntKind.i64.wrap ((l.map fun x => [i64V x]).length + 1) ≠ 0 by rw [hlen, hw1]; omega) | exact (show (0 : Int) ≤ 0 ∧ (0 : Int) ≤ ((l.map fun x => [i64V x]).length : Int) ∧ ((l.map fun x => [i64V x]).length : Int) * (8 : Nat) ≤ (roomBound : Nat) ∧ ((l.map fun x => [i64V x]).length : Int) ≤ (roomBound : Nat) by rw [hlen]; unfold roomBound; omega) | exact (show 0 ≤ IntKind.i64.wrap ((l.map fun x => [i64V x]).length - 1) ∧ IntKind.i64.wrap ((l.map fun x => [i64V x]).length - 1) < ((l.map fun x => [i64V x]).length : Int) by rw [hlen, e3]; omega) | exact ⟨Nat.le_of_ble_eq_true rfl, (by intro h; cases h), Nat.le_of_ble_eq_true rfl, Nat.le_of_ble_eq_true rfl⟩ | exact allOne_one _) ?_)
       | (refine And.intro (by show indep _ _ = true; kernel_rfl) ?_)
       | (refine Exists.intro _ (And.intro (by first | exact rfl | exact ok9 | exact (show lget (l.map fun x => [i64V x]) (IntKind.i64.wrap ((l.map fun x => [i64V x]).length - 1)).toNat = some [i64V x] by rw [lget_eq, hlen, e3, List.getElem?_map, show ((l.length : Int) - 1).toNat = l.length - 1 by omega, hx]; rfl)) ?_))
       | fail
      all_goals refine VLoop.unroll hE mixed ?_
      all_goals
        repeat' (conv => whnf); first
         | (refine bcase_of (fun hr => ?_) (fun hr => ?_) <;> (try simp only [hlen, e3, decide_eq_false_iff_not, decide_eq_true_eq] at hr) <;> try (exfalso; omega))
         | (refine And.intro (by first | exact Nat.le_of_ble_eq_true rfl | decide | exact (show 0 ≤ IntKind.i64.wrap (((l.map fun x => [i64V x]).length : Int) - 1) ∧ IntKind.i64.wrap (((l.map fun x => [i64V x]).length : Int) - 1) < ((l.map fun x => [i64V x]).length : Int) by rw [hlen, e3]; omega) | exact ⟨Nat.le_of_ble_eq_true rfl, (by intro h; cases h), Nat.le_of_ble_eq_true rfl, Nat.le_of_ble_eq_true rfl⟩ | exact allOne_one _) ?_)
         | (refine And.intro (by show indep _ _ = true; kernel_rfl) ?_)
         | (refine Exists.intro _ (And.intro (by first | exact rfl | exact (show lget (l.map fun x => [i64V x]) (IntKind.i64.wrap (((l.map fun x => [i64V x]).length : Int) - 1)).toNat = some [i64V x] by rw [lget_eq, hlen, e3, List.getElem?_map, show ((l.length : Int) - 1).toNat = l.length - 1 by omega, hx]; rfl)) ?_))
         | fail
      all_goals (conv => whnf)
      all_goals refine VLoop.norm [0, 5, 6, 7] [47] ?_
      all_goals (conv => whnf)
      all_goals refine ⟨pure_i64s l, ?_⟩
      all_goals (conv => whnf)
      all_goals refine ⟨pure1 _, ?_⟩
      all_goals (conv => whnf)
      · refine key (IntKind.i64.wrap (0 - (at_.tmod (IntKind.i64.wrap (((l.map fun x => [i64V x]).length : Int) + 1)))), IntKind.i64.wrap (IntKind.i64.wrap (((l.map fun x => [i64V x]).length : Int) - 1) - 1), _, _) ?_
        rename_i hq
        simp only [hlen, e4] at hq ⊢
        rw [hneg hq]
        refine ⟨by omega, by omega, rfl, by simp; omega, ?_, by omega, by omega⟩
        rw [show ((l.length : Int) - 2 + 1).toNat = l.length - 1 by omega, rev_drop hx, show l.length - 1 + 1 = l.length by omega]
        simp
      · refine key ((at_.tmod (IntKind.i64.wrap (((l.map fun x => [i64V x]).length : Int) + 1))), IntKind.i64.wrap (IntKind.i64.wrap (((l.map fun x => [i64V x]).length : Int) - 1) - 1), _, _) ?_
        rename_i hq
        simp only [hlen, e4] at hq ⊢
        refine ⟨by omega, by omega, rfl, by simp; omega, ?_, by omega, by omega⟩
        rw [show ((l.length : Int) - 2 + 1).toNat = l.length - 1 by omega, rev_drop hx, show l.length - 1 + 1 = l.length by omega]
        simp
    case l =>
      intro z hz
      refine VLoop.inv (fun x : Int × Int × List (List V) × Nat => st5 l x.1 x.2.1 x.2.2.1 x.2.2.2) (fun x => -1 ≤ x.2.1 ∧ x.2.1 < l.length ∧ x.2.2.2 = x.2.2.1.length ∧ (x.2.2.2 : Int) = l.length - 1 - x.2.1 ∧ x.2.2.1 = ((l.drop (x.2.1 + 1).toNat).reverse).map (fun y => [i64V y]) ∧ 0 ≤ x.1 ∧ x.1 ≤ l.length) (fun x => (x.2.1 + 1).toNat) z hz rfl ?_
      rintro ⟨k, i, es, n⟩ ⟨h1, h2, h3, h4, h5, h6, h7⟩ ih
      simp only at h1 h2 h3 h4 h5 h6 h7 ih
      show VLoop cx E _ (st5 l k i es n) _
      refine VLoop.unroll hE mixed ?_
      conv => whnf
      refine bcase_of (fun hr => ?_) (fun hr => ?_)
      · have hn : 0 ≤ i := by simp at hr; omega
        have hw : IntKind.i64.wrap (i - 1) = i - 1 := wrap64 (by omega) (by omega)
        obtain ⟨x, hx⟩ : ∃ x, l[i.toNat]? = some x := ⟨_, List.getElem?_eq_getElem (by omega)⟩
        have hpe : PureEs es := by rw [h5]; exact pure_i64s _
        repeat' (conv => whnf); first
         | (refine bcase_of (fun hr => ?_) (fun hr => ?_) <;> skip)
         | (refine And.intro (by first | exact Nat.le_of_ble_eq_true rfl | decide | exact ⟨by omega, by rw [hlen]; omega⟩ | exact room5 h3 (by omega) | exact allOne_one _) ?_)
         | (refine And.intro (by show indep _ _ = true; kernel_rfl) ?_)
         | (refine Exists.intro _ (And.intro (by first | exact rfl | exact (show lget _ _ = some [i64V x] by rw [lget_eq, List.getElem?_map, hx]; rfl)) ?_))
         | fail
        all_goals (conv => whnf)
        all_goals refine VLoop.norm [0, 5, 6, 7] [47] ?_
        all_goals (conv => whnf)
        all_goals refine ⟨pure_i64s l, ?_⟩
        all_goals (conv => whnf)
        all_goals refine ⟨pure_app hpe n _, ?_⟩
        all_goals (conv => whnf)
        all_goals refine ih (k, IntKind.i64.wrap (i - 1), (es.drop 0).take n ++ [[i64V x]], n + 1) ?_ ?_
        all_goals simp only [hw]
        all_goals try omega
        refine ⟨by omega, by omega, by simp [h3], by omega, ?_, h6, h7⟩
        rw [show (i - 1 + 1).toNat = i.toNat by omega, rev_drop hx, List.map_append, show i.toNat + 1 = (i + 1).toNat by omega, ← h5, h3]
        simp
      · have hn : i = -1 := by simp at hr; omega
        subst hn
        have he : es = l.reverse.map fun y => [i64V y] := by rw [h5]; simp
        have hk : n = l.length := by omega
        subst he
        subst hk
        clear h5 h4 h3 h1 h2 hr ih hz
        have hesl : (l.reverse.map fun y => [i64V y]).length = l.length := by simp
        have e0 : ((l.reverse.map fun y => [i64V y]).drop 0).take l.length = l.reverse.map fun y => [i64V y] := by rw [List.drop_zero, ← hesl, List.take_length]
        have e1 : ((l.map fun x => [i64V x]).drop 0).take (k.toNat - 0) = (l.take k.toNat).map fun x => [i64V x] := by simp
        have e2 : ((l.map fun x => [i64V x]).drop k.toNat).take ((l.map fun x => [i64V x]).length - k.toNat) = (l.drop k.toNat).map fun x => [i64V x] := by
          rw [← List.map_drop, List.take_of_length_le (by simp)]
        have p0 : PureEs (((l.reverse.map fun y => [i64V y]).drop 0).take l.length) := by rw [e0]; exact pure_i64s _
        have p1 : PureEs (((l.map fun x => [i64V x]).drop 0).take (k.toNat - 0)) := by rw [e1]; exact pure_i64s _
        have p2 : PureEs (((l.map fun x => [i64V x]).drop k.toNat).take ((l.map fun x => [i64V x]).length - k.toNat)) := by rw [e2]; exact pure_i64s _
        have n0 : PTriple Try.prog gv 10 [.lst 1 (((l.reverse.map fun y => [i64V y]).drop 0).take l.length)] (pairV (fit l.sum)) := by
          rw [e0, ← sum_rev]; exact ok10 _ (by simp; omega) fun x hx => hi x (by simpa using hx)
        have n1 : PTriple Try.prog gv 10 [.lst 1 (((l.map fun x => [i64V x]).drop 0).take (k.toNat - 0))] (pairV (fit (l.take k.toNat).sum)) := by
          rw [e1]; exact ok10 _ (by simp; omega) fun x hx => hi x (List.mem_of_mem_take hx)
        have n2 : PTriple Try.prog gv 10 [.lst 1 (((l.map fun x => [i64V x]).drop k.toNat).take ((l.map fun x => [i64V x]).length - k.toNat))] (pairV (fit (l.drop k.toNat).sum)) := by
          rw [e2]; exact ok10 _ (by simp; omega) fun x hx => hi x (List.mem_of_mem_drop hx)
        have hs : (l.take k.toNat).sum + (l.drop k.toNat).sum = l.sum := by rw [← List.sum_append, List.take_append_drop]
        repeat' (conv => whnf); first
         | (refine bcase_of (fun hr => ?_) (fun hr => ?_) <;> (try simp only [decide_eq_true_eq, decide_eq_false_iff_not, gt_iff_lt, bne_iff_ne, ne_eq, beq_iff_eq, bne_eq_false_iff_eq, beq_eq_false_iff_ne] at hr) <;> try (exfalso; first | omega | (simp at hr; done) | (rename_i hq; rw [hq] at hr; cases hr; done) | (simp_all; done)))
         | (refine And.intro (by first | exact Nat.le_of_ble_eq_true rfl | decide | exact ⟨by omega, by rw [hlen]; omega⟩ | exact (show 0 + l.length ≤ _ by rw [hesl]; omega) | exact p0 | exact p1 | exact p2 | exact pure_i64s l) ?_)
         | (refine And.intro (by show indep _ _ = true; kernel_rfl) ?_)
         | (refine Exists.intro _ (And.intro (by first | exact rfl | exact ok9 | exact ok10 l hbig hi | exact n0 | exact n1 | exact n2 | exact addparts _ _ _ hs (by assumption) (by assumption)) ?_))
         | fail
        all_goals (conv => whnf)
        all_goals rfl
end Go.Proofs.Ytccnfkblkihgjaa
