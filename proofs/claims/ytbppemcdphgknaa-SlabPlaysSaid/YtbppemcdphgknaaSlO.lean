/- Chapter 14: chains held against each other. -/
import Derived.Test.YtbppemcdphgknaaSlN
set_option linter.unusedVariables false
set_option linter.unusedSimpArgs false
namespace Go.Proofs.Ytbppemcdphgknaa
open Go Go.Vm
set_option maxRecDepth 100000
set_option maxHeartbeats 40000000
set_option linter.unusedSimpArgs false
set_option linter.unusedVariables false
theorem En.eq_of {x y : En} (h : x.v = y.v ∧ x.o = y.o ∧ (x.n = y.n ∧ x.a = y.a ∧ x.b = y.b ∧ x.p = y.p ∧ x.q = y.q)) : x = y := by
  cases x; cases y; simp_all
def stS13 (k l : List En) (i : Nat) : St DV := mkSt 55 [(0, chV k), (1, chV l), (5, i64V i)] [] []
theorem same13_ok (k l : List En) (hk : ∀ e ∈ k, EnOk e) (hl : ∀ e ∈ l, EnOk e) (hk0 : k.length ≤ 100000) : PTriple Try.prog gv 25 [chV k, chV l] (.bool (decide (k = l))) := by
  have pk := pure_E k
  have pl := pure_E l
  have lk := lenE k
  have ll := lenE l
  by_cases hlen : k.length = l.length
  case neg =>
    have hd : decide (k = l) = false := by simp; intro e; exact hlen (by rw [e])
    rw [hd]
    refine PTriple.of_body (C := cx) Try.func25 rfl (by kernel_rfl) mixed fun E hE => ?_
    repeat' (conv => whnf); first
     | (refine bcase_of (fun hr => ?_) (fun hr => ?_) <;> (try simp at hr) <;> try omega)
     | (apply And.intro; · first | exact Nat.le_of_ble_eq_true rfl | (show indep _ _ = true; kernel_rfl) | decide | exact ⟨by decide, by decide⟩ | exact ⟨Nat.le_of_ble_eq_true rfl, allOne_of rfl⟩)
     | (apply Exists.intro; apply And.intro; · first | exact rfl)
     | fail
    all_goals (conv => whnf)
    all_goals rfl
  case pos =>
    refine PTriple.of_body (C := cx) Try.func25 rfl (by kernel_rfl) mixed fun E hE => ?_
    repeat' (conv => whnf); first
     | (refine bcase_of (fun hr => ?_) (fun hr => ?_) <;> (try simp at hr) <;> try omega)
     | (apply And.intro; · first | exact Nat.le_of_ble_eq_true rfl | (show indep _ _ = true; kernel_rfl) | decide | exact ⟨by decide, by decide⟩ | exact ⟨Nat.le_of_ble_eq_true rfl, allOne_of rfl⟩)
     | (apply Exists.intro; apply And.intro; · first | exact rfl)
     | fail
    all_goals (conv => whnf)
    refine VLoop.norm [0, 1, 5] [] ?_
    repeat' (conv => whnf); first
     | (apply And.intro; · first | exact Nat.le_of_ble_eq_true rfl | (show indep _ _ = true; kernel_rfl) | decide | exact pk | exact pl)
     | (apply Exists.intro; apply And.intro; · first | exact rfl)
     | fail
    refine VLoop.inv (fun i : Nat => stS13 k l i) (fun i => i ≤ k.length ∧ k.take i = l.take i) (fun i => k.length - i) 0 ⟨Nat.zero_le _, by simp⟩ rfl ?_
    intro i hi ih
    have hw : IntKind.i64.wrap ((i : Int) + 1) = ((i + 1 : Nat) : Int) := wrap64 (by omega) (by omega)
    refine VLoop.unroll hE mixed ?_
    by_cases hgo : i < k.length
    case neg =>
      have he : k = l := by
        have := hi.2
        rwa [List.take_of_length_le (by omega), List.take_of_length_le (by omega)] at this
      have hd : decide (k = l) = true := by simpa using he
      rw [hd]
      repeat' (conv => whnf); first
       | (refine bcase_of (fun hr => ?_) (fun hr => ?_) <;> (try simp at hr) <;> try omega)
       | (apply And.intro; · first | exact Nat.le_of_ble_eq_true rfl | (show indep _ _ = true; kernel_rfl) | decide | exact ⟨by decide, by decide⟩ | exact ⟨Nat.le_of_ble_eq_true rfl, allOne_of rfl⟩)
       | (apply Exists.intro; apply And.intro; · first | exact rfl)
       | fail
      all_goals (conv => whnf)
      all_goals rfl
    case pos =>
      obtain ⟨x, hx⟩ : ∃ x, k[i]? = some x := ⟨_, List.getElem?_eq_getElem hgo⟩
      obtain ⟨y, hy⟩ : ∃ y, l[i]? = some y := ⟨_, List.getElem?_eq_getElem (by omega)⟩
      have gx := getE hx
      have gy := getE hy
      have ox := hk x (List.mem_of_getElem? hx)
      have oy := hl y (List.mem_of_getElem? hy)
      have c1 := same9_ok x.n x.a x.b y.n y.a y.b x.p x.q y.p y.q ox.1 ox.2 oy.1 oy.2
      have q1 := pure_R x.p
      have q2 := pure_R x.q
      have q3 := pure_R y.p
      have q4 := pure_R y.q
      by_cases hxy : x = y
      case neg =>
        have hd : decide (k = l) = false := by
          simp; intro e; rw [e, hy] at hx; cases hx; exact hxy rfl
        rw [hd]
        have hn : ¬ (x.v = y.v ∧ x.o = y.o ∧ (x.n = y.n ∧ x.a = y.a ∧ x.b = y.b ∧ x.p = y.p ∧ x.q = y.q)) := fun h => hxy (En.eq_of h)
        generalize hu : decide (x.n = y.n ∧ x.a = y.a ∧ x.b = y.b ∧ x.p = y.p ∧ x.q = y.q) = u at c1
        cases u with
        | false =>
          repeat' (conv => whnf); first
           | (refine bcase_of (fun hr => ?_) (fun hr => ?_) <;> (try simp only [decide_eq_true_eq, decide_eq_false_iff_not] at hr) <;> try (exfalso; first | omega | (simp at hr; done)))
           | (apply And.intro; · first | exact Nat.le_of_ble_eq_true rfl | (show indep _ _ = true; kernel_rfl) | decide | exact ⟨by omega, by omega⟩ | exact q1 | exact q2 | exact q3 | exact q4 | exact ⟨by decide, by decide⟩ | exact ⟨Nat.le_of_ble_eq_true rfl, allOne_of rfl⟩)
           | (apply Exists.intro; apply And.intro; · first | exact rfl | exact c1 | exact gx | exact gy)
           | fail
          all_goals (conv => whnf)
          all_goals rfl
        | true =>
          simp only [decide_eq_true_eq] at hu
          have hn2 : ¬ (x.v = y.v ∧ x.o = y.o) := fun h => hn ⟨h.1, h.2, hu⟩
          repeat' (conv => whnf); first
           | (refine bcase_of (fun hr => ?_) (fun hr => ?_) <;> (try simp only [decide_eq_true_eq, decide_eq_false_iff_not, bne_eq_false_iff_eq] at hr) <;> try (exfalso; first | omega | (simp at hr; done)))
           | (apply And.intro; · first | exact Nat.le_of_ble_eq_true rfl | (show indep _ _ = true; kernel_rfl) | decide | exact ⟨by omega, by omega⟩ | exact q1 | exact q2 | exact q3 | exact q4 | exact ⟨by decide, by decide⟩ | exact ⟨Nat.le_of_ble_eq_true rfl, allOne_of rfl⟩)
           | (apply Exists.intro; apply And.intro; · first | exact rfl | exact c1 | exact gx | exact gy)
           | fail
          all_goals (conv => whnf)
          all_goals rfl
      case pos =>
        subst hxy
        have hu : decide (x.n = x.n ∧ x.a = x.a ∧ x.b = x.b ∧ x.p = x.p ∧ x.q = x.q) = true := by simp
        rw [hu] at c1
        repeat' (conv => whnf); first
         | (refine bcase_of (fun hr => ?_) (fun hr => ?_) <;> (try simp only [decide_eq_true_eq, decide_eq_false_iff_not] at hr) <;> try (exfalso; first | omega | (simp at hr; done)))
         | (apply And.intro; · first | exact Nat.le_of_ble_eq_true rfl | (show indep _ _ = true; kernel_rfl) | decide | exact ⟨by omega, by omega⟩ | exact q1 | exact q2 | exact q3 | exact q4 | exact ⟨by decide, by decide⟩ | exact ⟨Nat.le_of_ble_eq_true rfl, allOne_of rfl⟩)
         | (apply Exists.intro; apply And.intro; · first | exact rfl | exact c1 | exact gx | exact gy)
         | fail
        all_goals (conv => whnf)
        refine VLoop.norm [0, 1, 5] [] ?_
        repeat' (conv => whnf); first
         | (apply And.intro; · first | exact Nat.le_of_ble_eq_true rfl | (show indep _ _ = true; kernel_rfl) | decide | exact pk | exact pl)
         | (apply Exists.intro; apply And.intro; · first | exact rfl)
         | fail
        rw [hw]
        refine ih (i + 1) ⟨hgo, ?_⟩ (by omega)
        rw [List.take_add_one, List.take_add_one, hi.2, hx, hy]
end Go.Proofs.Ytbppemcdphgknaa
