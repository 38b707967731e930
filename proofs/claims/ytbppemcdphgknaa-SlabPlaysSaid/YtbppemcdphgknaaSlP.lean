/- Chapter 14: the reference: Has. -/
import Derived.Test.YtbppemcdphgknaaSlI
import Derived.Test.YtbppemcdphgknaaSlO
set_option linter.unusedVariables false
set_option linter.unusedSimpArgs false
namespace Go.Proofs.Ytbppemcdphgknaa
open Go Go.Vm
set_option maxRecDepth 100000
set_option maxHeartbeats 40000000
set_option linter.unusedSimpArgs false
set_option linter.unusedVariables false
abbrev rowB (l : List Bool) : List (List V) := l.map fun x => [.bool x]
abbrev rowX (l : List (Option (List En))) : List (List V) := l.map fun x => [lV x]
theorem pure_B' (l : List Bool) : PureEs (rowB l) := fun e he v hv => by
  obtain ⟨x, _, rfl⟩ := List.mem_map.1 he
  obtain rfl : v = .bool x := by simpa using hv
  exact .bool _
theorem pure_X (l : List (Option (List En))) : PureEs (rowX l) := fun e he v hv => by
  obtain ⟨x, _, rfl⟩ := List.mem_map.1 he
  obtain rfl : v = lV x := by simpa using hv
  exact okC_pure (lV_ok x)
abbrev rsC (m m' : Name) (n k : Nat) (made : Int) : List V := [.rsl m 1 0 n, .rsl m' 1 0 k, i64V made]
def rsD (T : List Bool) (X : List (Option (List En))) (made : Int) : DV := .mk (rsC (0, 0) (0, 1) T.length X.length made) [.row 1 (rowB T) false, .row 1 (rowX X) false]
/-- Is it taken? -/
def hasT (T : List Bool) (i : Int) : Bool := decide (0 ≤ i) && T.getD i.toNat false
theorem getB {T : List Bool} {i : Nat} {b : Bool} (h : T[i]? = some b) : lget (rowB T) (0 + (i : Int).toNat) = some [.bool b] := by rw [lget_eq, Nat.zero_add, Int.toNat_natCast, List.getElem?_map, h]; rfl
theorem getB' {T : List Bool} {i : Int} {b : Bool} (h : T[i.toNat]? = some b) : lget (rowB T) (0 + i.toNat) = some [.bool b] := by rw [lget_eq, Nat.zero_add, List.getElem?_map, h]; rfl
noncomputable def cxR : Cx DV := cxOf []
theorem has14 (T : List Bool) (X : List (Option (List En))) (made i : Int) (hT : T.length ≤ 100000) : ATriple Try.prog gv R0 23 [.ref (0, 0) 0, i64V i] [.box (rsC (0, 1) (0, 2) T.length X.length made), .row 1 (rowB T) false, .row 1 (rowX X) false] (.bool (hasT T i)) [.box (rsC (0, 1) (0, 2) T.length X.length made), .row 1 (rowB T) false, .row 1 (rowX X) false] none := by
  have hl : (rowB T).length = T.length := by simp
  by_cases h0 : 0 ≤ i
  case neg =>
    have hd : hasT T i = false := by simp [hasT, h0]
    rw [hd]
    refine ATriple.of_bodyW (C := cx) Try.func23 rfl (by kernel_rfl) mixed rfl (by simp [okA, okC, okN]) (by simp [okOb, okC, okN, pure_B', pure_X]) (by simp [okG, okA, okC, okN]) (by simp [okOb, okC, okN, pure_B', pure_X]) (fun o ho => by cases ho) 0 [] fun E hE => ?_
    repeat' (conv => whnf); first
     | (refine bcase_of (fun hr => ?_) (fun hr => ?_) <;> (try simp only [decide_eq_true_eq, decide_eq_false_iff_not, ge_iff_le] at hr) <;> try (exfalso; first | omega | (simp at hr; done)))
     | (apply And.intro; · first | exact Nat.le_of_ble_eq_true rfl | (show indep _ _ = true; kernel_rfl) | decide | exact ⟨by decide, by decide⟩ | exact ⟨Nat.le_of_ble_eq_true rfl, allOne_of rfl⟩)
     | (apply Exists.intro; apply And.intro; · first | exact rfl)
     | fail
    all_goals refine ⟨[], ?_⟩
    all_goals (conv => whnf)
    all_goals exact ⟨rfl, rfl⟩
  case pos =>
    by_cases h1 : i < T.length
    case neg =>
      have hd : hasT T i = false := by
        have : T[i.toNat]? = none := List.getElem?_eq_none (by omega)
        simp [hasT, List.getD_eq_getElem?_getD, this]
      rw [hd]
      refine ATriple.of_bodyW (C := cx) Try.func23 rfl (by kernel_rfl) mixed rfl (by simp [okA, okC, okN]) (by simp [okOb, okC, okN, pure_B', pure_X]) (by simp [okG, okA, okC, okN]) (by simp [okOb, okC, okN, pure_B', pure_X]) (fun o ho => by cases ho) 0 [] fun E hE => ?_
      repeat' (conv => whnf); first
       | (refine bcase_of (fun hr => ?_) (fun hr => ?_) <;> (try simp only [decide_eq_true_eq, decide_eq_false_iff_not, ge_iff_le] at hr) <;> try (exfalso; first | omega | (simp at hr; done)))
       | (apply And.intro; · first | exact Nat.le_of_ble_eq_true rfl | (show indep _ _ = true; kernel_rfl) | decide | exact ⟨by decide, by decide⟩ | exact ⟨Nat.le_of_ble_eq_true rfl, allOne_of rfl⟩)
       | (apply Exists.intro; apply And.intro; · first | exact rfl)
       | fail
      all_goals refine ⟨[], ?_⟩
      all_goals (conv => whnf)
      all_goals exact ⟨rfl, rfl⟩
    case pos =>
      obtain ⟨b, hb⟩ : ∃ b, T[i.toNat]? = some b := ⟨_, List.getElem?_eq_getElem (by omega)⟩
      have hd : hasT T i = b := by simp [hasT, h0, List.getD_eq_getElem?_getD, hb]
      rw [hd]
      have gb := getB' hb
      cases b
      all_goals refine ATriple.of_bodyW (C := cx) Try.func23 rfl (by kernel_rfl) mixed rfl (by simp [okA, okC, okN]) (by simp [okOb, okC, okN, pure_B', pure_X]) (by simp [okG, okA, okC, okN]) (by simp [okOb, okC, okN, pure_B', pure_X]) (fun o ho => by cases ho) 0 [] fun E hE => ?_
      · skip
        repeat' (conv => whnf); first
         | (refine bcase_of (fun hr => ?_) (fun hr => ?_) <;> (try simp only [decide_eq_true_eq, decide_eq_false_iff_not, ge_iff_le] at hr) <;> try (exfalso; first | omega | (simp at hr; done)))
         | (apply And.intro; · first | exact Nat.le_of_ble_eq_true rfl | (show indep _ _ = true; kernel_rfl) | decide | exact ⟨by omega, by omega⟩ | exact ⟨by decide, by decide⟩ | exact ⟨Nat.le_of_ble_eq_true rfl, allOne_of rfl⟩)
         | (apply Exists.intro; apply And.intro; · first | exact rfl | exact gb)
         | fail
        all_goals refine ⟨[], ?_⟩
        all_goals (conv => whnf)
        all_goals exact ⟨rfl, rfl⟩
      · skip
        repeat' (conv => whnf); first
         | (refine bcase_of (fun hr => ?_) (fun hr => ?_) <;> (try simp only [decide_eq_true_eq, decide_eq_false_iff_not, ge_iff_le] at hr) <;> try (exfalso; first | omega | (simp at hr; done)))
         | (apply And.intro; · first | exact Nat.le_of_ble_eq_true rfl | (show indep _ _ = true; kernel_rfl) | decide | exact ⟨by omega, by omega⟩ | exact ⟨by decide, by decide⟩ | exact ⟨Nat.le_of_ble_eq_true rfl, allOne_of rfl⟩)
         | (apply Exists.intro; apply And.intro; · first | exact rfl | exact gb)
         | fail
        all_goals refine ⟨[], ?_⟩
        all_goals (conv => whnf)
        all_goals exact ⟨rfl, rfl⟩
end Go.Proofs.Ytbppemcdphgknaa
