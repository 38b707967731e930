/- Chapter 14: the reference: Len, Take. -/
import Derived.Test.YtbppemcdphgknaaSlP
set_option linter.unusedVariables false
set_option linter.unusedSimpArgs false
namespace Go.Proofs.Ytbppemcdphgknaa
open Go Go.Vm
set_option maxRecDepth 100000
set_option maxHeartbeats 40000000
set_option linter.unusedSimpArgs false
set_option linter.unusedVariables false
def cntT (T : List Bool) : Nat := T.count true
theorem cnt_take {T : List Bool} {i : Nat} {b : Bool} (h : T[i]? = some b) : cntT (T.take (i + 1)) = cntT (T.take i) + (if b then 1 else 0) := by
  unfold cntT
  rw [List.take_add_one, List.count_append, h]
  cases b <;> simp
def stLen (T : List Bool) (X : List (Option (List En))) (made : Int) (i : Nat) : St DV := mkSt 24 [(0, .ref (0, 0) 0), (3, i64V (cntT (T.take i))), (4, i64V i)] [] [some (.box (rsC (0, 1) (0, 2) T.length X.length made)), some (.row 1 (rowB T) false), some (.row 1 (rowX X) false)]
theorem len14 (T : List Bool) (X : List (Option (List En))) (made : Int) (hT : T.length ≤ 100000) : ATriple Try.prog gv R0 26 [.ref (0, 0) 0] [.box (rsC (0, 1) (0, 2) T.length X.length made), .row 1 (rowB T) false, .row 1 (rowX X) false] (i64V (cntT T)) [.box (rsC (0, 1) (0, 2) T.length X.length made), .row 1 (rowB T) false, .row 1 (rowX X) false] none := by
  have hl : (rowB T).length = T.length := by simp
  have pT := pure_B' T
  have pX := pure_X X
  refine ATriple.of_bodyW (C := cx) Try.func26 rfl (by kernel_rfl) mixed rfl (by simp [okA, okC, okN, pure_E]) (by simp [okOb, okC, okN, pure_B', pure_X]) (by simp [okG, okA, okC, okN]) (by simp only [List.mem_cons, List.not_mem_nil, or_false, forall_eq_or_imp, forall_eq]; exact ⟨by simp [okOb, okC, okN], pure_B' _, pure_X _⟩) (fun o ho => by cases ho) 0 [] fun E hE => ?_
  repeat' (conv => whnf); first
   | (refine bcase_of (fun hr => ?_) (fun hr => ?_) <;> (try simp only [decide_eq_true_eq, decide_eq_false_iff_not, ge_iff_le] at hr) <;> try (exfalso; first | omega | (simp at hr; done)))
   | (apply And.intro; · first | exact Nat.le_of_ble_eq_true rfl | (show indep _ _ = true; kernel_rfl) | decide | exact ⟨by decide, by decide⟩ | exact ⟨Nat.le_of_ble_eq_true rfl, allOne_of rfl⟩)
   | (apply Exists.intro; apply And.intro; · first | exact rfl)
   | fail
  all_goals (conv => whnf)
  refine VLoop.norm [0, 3, 4] [] ?_
  repeat' (conv => whnf); first
   | (apply And.intro; · first | exact Nat.le_of_ble_eq_true rfl | (show indep _ _ = true; kernel_rfl) | decide | exact pT | exact pX)
   | (apply Exists.intro; apply And.intro; · first | exact rfl)
   | fail
  refine VLoop.inv (fun i : Nat => stLen T X made i) (fun i => i ≤ T.length) (fun i => T.length - i) 0 (Nat.zero_le _) rfl ?_
  intro i hi ih
  have hw : IntKind.i64.wrap ((i : Int) + 1) = ((i + 1 : Nat) : Int) := wrap64 (by omega) (by omega)
  refine VLoop.unroll hE mixed ?_
  by_cases hgo : i < T.length
  case neg =>
    repeat' (conv => whnf); first
     | (refine bcase_of (fun hr => ?_) (fun hr => ?_) <;> (try simp only [decide_eq_true_eq, decide_eq_false_iff_not, ge_iff_le] at hr) <;> try (exfalso; first | omega | (simp at hr; done)))
     | (apply And.intro; · first | exact Nat.le_of_ble_eq_true rfl | (show indep _ _ = true; kernel_rfl) | decide | exact ⟨by decide, by decide⟩ | exact ⟨Nat.le_of_ble_eq_true rfl, allOne_of rfl⟩)
     | (apply Exists.intro; apply And.intro; · first | exact rfl)
     | fail
    refine ⟨[], ?_⟩
    conv => whnf
    refine ⟨?_, rfl⟩
    rw [List.take_of_length_le (by omega)]; rfl
  case pos =>
    obtain ⟨b, hb⟩ : ∃ b, T[i]? = some b := ⟨_, List.getElem?_eq_getElem hgo⟩
    have gb := getB hb
    have hc := cnt_take hb
    have hcl : cntT (T.take i) ≤ T.length := Nat.le_trans List.count_le_length (by simp; omega)
    cases b with
    | true =>
      have hw2 : IntKind.i64.wrap ((cntT (T.take i) : Int) + 1) = (cntT (T.take (i + 1)) : Int) := (wrap64 (by omega) (by omega)).trans (by simp at hc; omega)
      repeat' (conv => whnf); first
       | (refine bcase_of (fun hr => ?_) (fun hr => ?_) <;> (try simp only [decide_eq_true_eq, decide_eq_false_iff_not, ge_iff_le] at hr) <;> try (exfalso; first | omega | (simp at hr; done)))
       | (apply And.intro; · first | exact Nat.le_of_ble_eq_true rfl | (show indep _ _ = true; kernel_rfl) | decide | exact ⟨by omega, by omega⟩ | exact ⟨by decide, by decide⟩ | exact ⟨Nat.le_of_ble_eq_true rfl, allOne_of rfl⟩)
       | (apply Exists.intro; apply And.intro; · first | exact rfl | exact gb)
       | fail
      all_goals (conv => whnf)
      refine VLoop.norm [0, 3, 4] [] ?_
      repeat' (conv => whnf); first
       | (apply And.intro; · first | exact Nat.le_of_ble_eq_true rfl | (show indep _ _ = true; kernel_rfl) | decide | exact pT | exact pX)
       | (apply Exists.intro; apply And.intro; · first | exact rfl)
       | fail
      rw [hw, hw2]
      exact ih (i + 1) hgo (by omega)
    | false =>
      have hw2 : (cntT (T.take i) : Int) = (cntT (T.take (i + 1)) : Int) := by simp at hc; omega
      repeat' (conv => whnf); first
       | (refine bcase_of (fun hr => ?_) (fun hr => ?_) <;> (try simp only [decide_eq_true_eq, decide_eq_false_iff_not, ge_iff_le] at hr) <;> try (exfalso; first | omega | (simp at hr; done)))
       | (apply And.intro; · first | exact Nat.le_of_ble_eq_true rfl | (show indep _ _ = true; kernel_rfl) | decide | exact ⟨by omega, by omega⟩ | exact ⟨by decide, by decide⟩ | exact ⟨Nat.le_of_ble_eq_true rfl, allOne_of rfl⟩)
       | (apply Exists.intro; apply And.intro; · first | exact rfl | exact gb)
       | fail
      all_goals (conv => whnf)
      refine VLoop.norm [0, 3, 4] [] ?_
      repeat' (conv => whnf); first
       | (apply And.intro; · first | exact Nat.le_of_ble_eq_true rfl | (show indep _ _ = true; kernel_rfl) | decide | exact pT | exact pX)
       | (apply Exists.intro; apply And.intro; · first | exact rfl)
       | fail
      rw [hw, hw2]
      exact ih (i + 1) hgo (by omega)
/-- The first one that is not. -/
def fT : List Bool → Nat
  | [] => 0
  | b :: r => if b then fT r + 1 else 0
theorem fT_before : ∀ (T : List Bool) (i : Nat), i < fT T → T[i]? = some true
  | [], i, h => by simp [fT] at h
  | b :: r, i, h => by
    simp only [fT] at h
    split at h
    · rename_i hb
      cases i with
      | zero => simp [hb]
      | succ i => simpa using fT_before r i (by omega)
    · omega
theorem fT_le : ∀ T : List Bool, fT T ≤ T.length
  | [] => Nat.le_refl _
  | b :: r => by
    have := fT_le r
    simp only [fT]; split <;> simp <;> omega
theorem fT_at : ∀ T : List Bool, fT T < T.length → T[fT T]? = some false
  | [], h => by simp [fT] at h
  | b :: r, h => by
    simp only [fT] at h ⊢
    split at h
    · rename_i hb; rw [if_pos hb]; simpa using fT_at r (by simpa using h)
    · rename_i hb; rw [if_neg hb]; simpa using hb
def stTk (T : List Bool) (X : List (Option (List En))) (made : Int) (i : Nat) : St DV := mkSt 45 [(0, .ref (0, 0) 0), (3, i64V i)] [] [some (.box (rsC (0, 1) (0, 2) T.length X.length made)), some (.row 1 (rowB T) false), some (.row 1 (rowX X) false)]
theorem rowB_set (T : List Bool) (i : Nat) (b : Bool) : lset (rowB T) i [.bool b] = rowB (T.set i b) := by rw [lset_eq]; simp [rowB, List.map_set]
theorem rowX_set (X : List (Option (List En))) (i : Nat) (l : Option (List En)) : lset (rowX X) i [lV l] = rowX (X.set i l) := by rw [lset_eq]; simp [rowX, List.map_set]
theorem take14_no (T : List Bool) (X : List (Option (List En))) (made : Int) (hT : T.length ≤ 100000) (h : fT T = T.length) : ATriple Try.prog gv R0 21 [.ref (0, 0) 0] [.box (rsC (0, 1) (0, 2) T.length X.length made), .row 1 (rowB T) false, .row 1 (rowX X) false] (i64V (-1)) [.box (rsC (0, 1) (0, 2) T.length X.length made), .row 1 (rowB T) false, .row 1 (rowX X) false] none := by
  have hl : (rowB T).length = T.length := by simp
  have hlx : (rowX X).length = X.length := by simp
  have pT := pure_B' T
  have pX := pure_X X
  have hf := fT_le T
  refine ATriple.of_bodyW (C := cx) Try.func21 rfl (by kernel_rfl) mixed rfl (by simp [okA, okC, okN, pure_E]) (by simp [okOb, okC, okN, pure_B', pure_X]) (by simp [okG, okA, okC, okN]) (by simp only [List.mem_cons, List.not_mem_nil, or_false, forall_eq_or_imp, forall_eq]; exact ⟨by simp [okOb, okC, okN], pure_B' _, pure_X _⟩) (fun o ho => by cases ho) 0 [] fun E hE => ?_
  repeat' (conv => whnf); first
   | (refine bcase_of (fun hr => ?_) (fun hr => ?_) <;> (try simp only [decide_eq_true_eq, decide_eq_false_iff_not, ge_iff_le] at hr) <;> try (exfalso; first | omega | (simp at hr; done)))
   | (apply And.intro; · first | exact Nat.le_of_ble_eq_true rfl | (show indep _ _ = true; kernel_rfl) | decide | exact ⟨by decide, by decide⟩ | exact ⟨Nat.le_of_ble_eq_true rfl, allOne_of rfl⟩)
   | (apply Exists.intro; apply And.intro; · first | exact rfl)
   | fail
  all_goals (conv => whnf)
  refine VLoop.norm [0, 3] [] ?_
  repeat' (conv => whnf); first
   | (apply And.intro; · first | exact Nat.le_of_ble_eq_true rfl | (show indep _ _ = true; kernel_rfl) | decide | exact pT | exact pX)
   | (apply Exists.intro; apply And.intro; · first | exact rfl)
   | fail
  refine VLoop.inv (fun i : Nat => stTk T X made i) (fun i => i ≤ fT T) (fun i => T.length - i) 0 (Nat.zero_le _) rfl ?_
  intro i hi ih
  have hw : IntKind.i64.wrap ((i : Int) + 1) = ((i + 1 : Nat) : Int) := wrap64 (by omega) (by omega)
  refine VLoop.unroll hE mixed ?_
  by_cases hgo : i < fT T
  case pos =>
    have gb := getB (fT_before T i hgo)
    repeat' (conv => whnf); first
     | (refine bcase_of (fun hr => ?_) (fun hr => ?_) <;> (try simp only [decide_eq_true_eq, decide_eq_false_iff_not, ge_iff_le] at hr) <;> try (exfalso; first | omega | (simp at hr; done)))
     | (apply And.intro; · first | exact Nat.le_of_ble_eq_true rfl | (show indep _ _ = true; kernel_rfl) | decide | exact ⟨by omega, by omega⟩ | exact ⟨by decide, by decide⟩ | exact ⟨Nat.le_of_ble_eq_true rfl, allOne_of rfl⟩)
     | (apply Exists.intro; apply And.intro; · first | exact rfl | exact gb)
     | fail
    all_goals (conv => whnf)
    refine VLoop.norm [0, 3] [] ?_
    repeat' (conv => whnf); first
     | (apply And.intro; · first | exact Nat.le_of_ble_eq_true rfl | (show indep _ _ = true; kernel_rfl) | decide | exact pT | exact pX)
     | (apply Exists.intro; apply And.intro; · first | exact rfl)
     | fail
    rw [hw]
    exact ih (i + 1) hgo (by omega)
  case neg =>
    repeat' (conv => whnf); first
     | (refine bcase_of (fun hr => ?_) (fun hr => ?_) <;> (try simp only [decide_eq_true_eq, decide_eq_false_iff_not, ge_iff_le] at hr) <;> try (exfalso; first | omega | (simp at hr; done)))
     | (apply And.intro; · first | exact Nat.le_of_ble_eq_true rfl | (show indep _ _ = true; kernel_rfl) | decide | exact ⟨by decide, by decide⟩ | exact ⟨Nat.le_of_ble_eq_true rfl, allOne_of rfl⟩)
     | (apply Exists.intro; apply And.intro; · first | exact rfl)
     | fail
    all_goals refine ⟨[], ?_⟩
    all_goals (conv => whnf)
    all_goals exact ⟨rfl, rfl⟩
theorem take14_ok (T : List Bool) (X : List (Option (List En))) (made : Int) (hT : T.length ≤ 100000) (hX : X.length = T.length) (h : fT T < T.length) : ATriple Try.prog gv R0 21 [.ref (0, 0) 0] [.box (rsC (0, 1) (0, 2) T.length X.length made), .row 1 (rowB T) false, .row 1 (rowX X) false] (i64V (fT T)) [.box (rsC (0, 1) (0, 2) T.length X.length (if ((fT T / 8 + 1 : Nat) : Int) > made then ((fT T / 8 + 1 : Nat) : Int) else made)), .row 1 (rowB (T.set (fT T) true)) false, .row 1 (rowX (X.set (fT T) none)) false] none := by
  have hl : (rowB T).length = T.length := by simp
  have hlx : (rowX X).length = X.length := by simp
  have pT := pure_B' T
  have pX := pure_X X
  have hf := fT_le T
  have hat := fT_at T h
  refine ATriple.of_bodyW (C := cx) Try.func21 rfl (by kernel_rfl) mixed rfl (by simp [okA, okC, okN, pure_E]) (by simp [okOb, okC, okN, pure_B', pure_X]) (by simp [okG, okA, okC, okN]) (by simp only [List.mem_cons, List.not_mem_nil, or_false, forall_eq_or_imp, forall_eq]; exact ⟨by simp [okOb, okC, okN], pure_B' _, pure_X _⟩) (fun o ho => by cases ho) 0 [] fun E hE => ?_
  repeat' (conv => whnf); first
   | (refine bcase_of (fun hr => ?_) (fun hr => ?_) <;> (try simp only [decide_eq_true_eq, decide_eq_false_iff_not, ge_iff_le] at hr) <;> try (exfalso; first | omega | (simp at hr; done)))
   | (apply And.intro; · first | exact Nat.le_of_ble_eq_true rfl | (show indep _ _ = true; kernel_rfl) | decide | exact ⟨by decide, by decide⟩ | exact ⟨Nat.le_of_ble_eq_true rfl, allOne_of rfl⟩)
   | (apply Exists.intro; apply And.intro; · first | exact rfl)
   | fail
  all_goals (conv => whnf)
  refine VLoop.norm [0, 3] [] ?_
  repeat' (conv => whnf); first
   | (apply And.intro; · first | exact Nat.le_of_ble_eq_true rfl | (show indep _ _ = true; kernel_rfl) | decide | exact pT | exact pX)
   | (apply Exists.intro; apply And.intro; · first | exact rfl)
   | fail
  refine VLoop.inv (fun i : Nat => stTk T X made i) (fun i => i ≤ fT T) (fun i => T.length - i) 0 (Nat.zero_le _) rfl ?_
  intro i hi ih
  have hw : IntKind.i64.wrap ((i : Int) + 1) = ((i + 1 : Nat) : Int) := wrap64 (by omega) (by omega)
  refine VLoop.unroll hE mixed ?_
  by_cases hgo : i < fT T
  case pos =>
    have gb := getB (fT_before T i hgo)
    repeat' (conv => whnf); first
     | (refine bcase_of (fun hr => ?_) (fun hr => ?_) <;> (try simp only [decide_eq_true_eq, decide_eq_false_iff_not, ge_iff_le] at hr) <;> try (exfalso; first | omega | (simp at hr; done)))
     | (apply And.intro; · first | exact Nat.le_of_ble_eq_true rfl | (show indep _ _ = true; kernel_rfl) | decide | exact ⟨by omega, by omega⟩ | exact ⟨by decide, by decide⟩ | exact ⟨Nat.le_of_ble_eq_true rfl, allOne_of rfl⟩)
     | (apply Exists.intro; apply And.intro; · first | exact rfl | exact gb)
     | fail
    all_goals (conv => whnf)
    refine VLoop.norm [0, 3] [] ?_
    repeat' (conv => whnf); first
     | (apply And.intro; · first | exact Nat.le_of_ble_eq_true rfl | (show indep _ _ = true; kernel_rfl) | decide | exact pT | exact pX)
     | (apply Exists.intro; apply And.intro; · first | exact rfl)
     | fail
    rw [hw]
    exact ih (i + 1) hgo (by omega)
  case neg =>
    obtain rfl : i = fT T := by omega
    have gb := getB hat
    have gx : lget (rowX X) (0 + ((fT T : Nat) : Int).toNat) = some [lV (X.getD (fT T) none)] := by
      rw [lget_eq, Nat.zero_add, Int.toNat_natCast, List.getElem?_map, List.getElem?_eq_getElem (by omega), List.getD_eq_getElem?_getD, List.getElem?_eq_getElem (by omega)]; rfl
    have hd : IntKind.i64.wrap (((fT T : Nat) : Int).tdiv 8) = ((fT T / 8 : Nat) : Int) := by rw [div8 (by omega) (by omega), Int.toNat_natCast]
    have hd2 : IntKind.i64.wrap (((fT T / 8 : Nat) : Int) + 1) = ((fT T / 8 + 1 : Nat) : Int) := wrap64 (by omega) (by omega)
    repeat' (conv => whnf); first
     | (refine bcase_of (fun hr => ?_) (fun hr => ?_) <;> (try simp only [decide_eq_true_eq, decide_eq_false_iff_not, ge_iff_le] at hr) <;> try (exfalso; first | omega | (simp at hr; done)))
     | (apply And.intro; · first | exact Nat.le_of_ble_eq_true rfl | (show indep _ _ = true; kernel_rfl) | decide | exact ⟨by omega, by omega⟩ | exact ⟨by decide, by decide⟩ | exact ⟨Nat.le_of_ble_eq_true rfl, allOne_of rfl⟩)
     | (apply Exists.intro; apply And.intro; · first | exact rfl | exact gb | exact gx)
     | fail
    refine ⟨[], ?_⟩
    conv => whnf
    refine ⟨rfl, ?_⟩
    rw [hd, hd2, Int.toNat_natCast, show 0 + fT T = fT T from Nat.zero_add _]
    rw [← rowB_set, ← rowX_set]
    rfl
end Go.Proofs.Ytbppemcdphgknaa
