/- Chapter 14: bags held against each other. -/
import Derived.Test.YtbppemcdphgknaaSlC
set_option linter.unusedVariables false
set_option linter.unusedSimpArgs false
namespace Go.Proofs.Ytbppemcdphgknaa
open Go Go.Vm
set_option maxRecDepth 100000
set_option maxHeartbeats 40000000
set_option linter.unusedSimpArgs false
set_option linter.unusedVariables false
theorem lenR (l : List (Int × Int)) : (l.map encR).length = l.length := by simp
theorem lenE (l : List En) : (l.map encE).length = l.length := by simp
theorem getR {l : List (Int × Int)} {i : Nat} {x : Int × Int} (h : l[i]? = some x) : lget (l.map encR) ((i : Int).toNat) = some (encR x) := by rw [lget_eq, Int.toNat_natCast, List.getElem?_map, h]; rfl
theorem getE {l : List En} {i : Nat} {x : En} (h : l[i]? = some x) : lget (l.map encE) ((i : Int).toNat) = some (encE x) := by rw [lget_eq, Int.toNat_natCast, List.getElem?_map, h]; rfl
def stS8 (p q : List (Int × Int)) (i : Nat) : St DV := mkSt 26 [(0, bagV p), (1, bagV q), (5, i64V i)] [] []
theorem same8_ok (p q : List (Int × Int)) (hp : p.length ≤ 100000) (hq : q.length ≤ 100000) : PTriple Try.prog gv 55 [bagV p, bagV q] (.bool (decide (p = q))) := by
  have lp := lenR p
  have lq := lenR q
  by_cases hlen : p.length = q.length
  case neg =>
    have hd : decide (p = q) = false := by simp; intro e; exact hlen (by rw [e])
    rw [hd]
    refine PTriple.of_body (C := cx) Try.func55 rfl (by kernel_rfl) mixed fun E hE => ?_
    repeat' (conv => whnf); first
     | (refine bcase_of (fun hr => ?_) (fun hr => ?_) <;> (try simp at hr) <;> try omega)
     | (apply And.intro; · first | exact Nat.le_of_ble_eq_true rfl | (show indep _ _ = true; kernel_rfl) | decide | exact ⟨by decide, by decide⟩ | exact ⟨Nat.le_of_ble_eq_true rfl, allOne_of rfl⟩)
     | (apply Exists.intro; apply And.intro; · first | exact rfl)
     | fail
    all_goals (conv => whnf)
    all_goals rfl
  case pos =>
    refine PTriple.of_body (C := cx) Try.func55 rfl (by kernel_rfl) mixed fun E hE => ?_
    repeat' (conv => whnf); first
     | (refine bcase_of (fun hr => ?_) (fun hr => ?_) <;> (try simp at hr) <;> try omega)
     | (apply And.intro; · first | exact Nat.le_of_ble_eq_true rfl | (show indep _ _ = true; kernel_rfl) | decide | exact ⟨by decide, by decide⟩ | exact ⟨Nat.le_of_ble_eq_true rfl, allOne_of rfl⟩)
     | (apply Exists.intro; apply And.intro; · first | exact rfl)
     | fail
    all_goals (conv => whnf)
    refine VLoop.norm [0, 1, 5] [] ?_
    repeat' (conv => whnf); first
     | (apply And.intro; · first | exact Nat.le_of_ble_eq_true rfl | (show indep _ _ = true; kernel_rfl) | decide | exact pure_R _)
     | (apply Exists.intro; apply And.intro; · first | exact rfl)
     | fail
    refine VLoop.inv (fun i : Nat => stS8 p q i) (fun i => i ≤ p.length ∧ p.take i = q.take i) (fun i => p.length - i) 0 ⟨Nat.zero_le _, by simp⟩ rfl ?_
    intro i hi ih
    have hw : IntKind.i64.wrap ((i : Int) + 1) = ((i + 1 : Nat) : Int) := wrap64 (by omega) (by omega)
    refine VLoop.unroll hE mixed ?_
    by_cases hgo : i < p.length
    case neg =>
      have he : p = q := by
        have := hi.2
        rwa [List.take_of_length_le (by omega), List.take_of_length_le (by omega)] at this
      have hd : decide (p = q) = true := by simpa using he
      rw [hd]
      repeat' (conv => whnf); first
       | (refine bcase_of (fun hr => ?_) (fun hr => ?_) <;> (try simp at hr) <;> try omega)
       | (apply And.intro; · first | exact Nat.le_of_ble_eq_true rfl | (show indep _ _ = true; kernel_rfl) | decide | exact ⟨by decide, by decide⟩ | exact ⟨Nat.le_of_ble_eq_true rfl, allOne_of rfl⟩)
       | (apply Exists.intro; apply And.intro; · first | exact rfl)
       | fail
      all_goals (conv => whnf)
      all_goals rfl
    case pos =>
      obtain ⟨x, hx⟩ : ∃ x, p[i]? = some x := ⟨_, List.getElem?_eq_getElem hgo⟩
      obtain ⟨y, hy⟩ : ∃ y, q[i]? = some y := ⟨_, List.getElem?_eq_getElem (by omega)⟩
      have gx := getR hx
      have gy := getR hy
      by_cases hxy : x = y
      case neg =>
        have hd : decide (p = q) = false := by
          simp; intro e; rw [e, hy] at hx; cases hx; exact hxy rfl
        rw [hd]
        have hne : (x.1 == y.1 && (x.2 == y.2 && true)) = false := by
          cases h1 : (x.1 == y.1) with
          | false => rfl
          | true =>
            cases h2 : (x.2 == y.2) with
            | false => rfl
            | true => exact absurd (Prod.ext (by simpa using h1) (by simpa using h2)) hxy
        repeat' (conv => whnf); first
         | (refine bcase_of (fun hr => ?_) (fun hr => ?_) <;> (try simp only [decide_eq_true_eq, decide_eq_false_iff_not] at hr) <;> try (exfalso; first | omega | (rw [hne] at hr; simp at hr; done)))
         | (apply And.intro; · first | exact Nat.le_of_ble_eq_true rfl | (show indep _ _ = true; kernel_rfl) | decide | exact ⟨by omega, by omega⟩ | exact ⟨by decide, by decide⟩ | exact ⟨Nat.le_of_ble_eq_true rfl, allOne_of rfl⟩)
         | (apply Exists.intro; apply And.intro; · first | exact rfl | exact gx | exact gy)
         | fail
        all_goals (conv => whnf)
        all_goals rfl
      case pos =>
        subst hxy
        have hne : (x.1 == x.1 && (x.2 == x.2 && true)) = true := by simp
        repeat' (conv => whnf); first
         | (refine bcase_of (fun hr => ?_) (fun hr => ?_) <;> (try simp only [decide_eq_true_eq, decide_eq_false_iff_not] at hr) <;> try (exfalso; first | omega | (rw [hne] at hr; simp at hr; done)))
         | (apply And.intro; · first | exact Nat.le_of_ble_eq_true rfl | (show indep _ _ = true; kernel_rfl) | decide | exact ⟨by omega, by omega⟩ | exact ⟨by decide, by decide⟩ | exact ⟨Nat.le_of_ble_eq_true rfl, allOne_of rfl⟩)
         | (apply Exists.intro; apply And.intro; · first | exact rfl | exact gx | exact gy)
         | fail
        all_goals (conv => whnf)
        refine VLoop.norm [0, 1, 5] [] ?_
        repeat' (conv => whnf); first
         | (apply And.intro; · first | exact Nat.le_of_ble_eq_true rfl | (show indep _ _ = true; kernel_rfl) | decide | exact pure_R _)
         | (apply Exists.intro; apply And.intro; · first | exact rfl)
         | fail
        rw [hw]
        refine ih (i + 1) ⟨hgo, ?_⟩ (by omega)
        rw [List.take_add_one, List.take_add_one, hi.2, hx, hy]
end Go.Proofs.Ytbppemcdphgknaa
