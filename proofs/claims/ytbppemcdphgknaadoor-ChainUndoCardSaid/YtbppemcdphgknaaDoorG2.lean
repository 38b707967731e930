/- G2: merged. -/
import Derived.Test.YtbppemcdphgknaaDoorG1
set_option linter.unusedVariables false
set_option linter.unusedSimpArgs false
/- Chapter 13: may a bag be. -/
namespace Go.Proofs.YtbppemcdphgknaaDoor
open Go Go.Vm
set_option maxRecDepth 100000
set_option maxHeartbeats 40000000
set_option linter.unusedSimpArgs false
set_option linter.unusedVariables false
abbrev RL := List (Int × Int)
def bgo : Option Int → Int → RL → Bool
  | _, _, [] => true
  | prev, s, (v, n) :: r => (match prev with | none => true | some p => decide (p < v)) && decide (1 ≤ n) && decide (n ≤ 1099511627776 - s) && bgo (some v) (s + n) r
def goodB (b : RL) : Bool := bgo none 0 b
def prevR (b : RL) (i : Nat) : Option Int := match i with
  | 0 => none
  | j + 1 => (b[j]?).map (·.1)
def stG (b : RL) (i : Nat) (s : Int) : St DV := mkSt 43 [(0, bagV b), (3, i64V s), (6, bagV b), (7, i64V b.length), (8, i64V i)] [] []
def stG8 (b : RL) (i : Nat) (s : Int) : St DV := mkSt 52 [(0, bagV b), (3, i64V s), (4, i64V i)] [] []
theorem drop_get {α : Type} {l : List α} {i : Nat} {x : α} (h : l[i]? = some x) : l.drop i = x :: l.drop (i + 1) := by
  have hi := (List.getElem?_eq_some_iff.1 h).1
  rw [List.drop_eq_getElem_cons hi]
  congr 1
  rw [List.getElem?_eq_getElem hi] at h
  exact Option.some.inj h
theorem take_get {α : Type} {l : List α} {i : Nat} {x : α} (h : l[i]? = some x) : l.take (i + 1) = l.take i ++ [x] := by
  rw [List.take_add_one, h]; rfl
theorem getRp {l : RL} {i : Nat} {x n : Int} (h : l[i]? = some (x, n)) : lget (l.map encR) ((i : Int).toNat) = some [i64V x, i64V n] := getR h
theorem goodB_ok (b : RL) (hl : b.length ≤ 1000000) : PTriple Tryd.prog gv 98 [bagV b] (.bool (goodB b)) := by
  have pP := pure_R b
  have lP := lenR b
  generalize hH : goodB b = H
  refine PTriple.of_body (C := cx) Tryd.func98 rfl (by kernel_rfl) mixed fun E hE => ?_
  repeat' (conv => whnf); first
   | (refine bcase_of (fun hr => ?_) (fun hr => ?_) <;> (try simp only [decide_eq_true_eq, decide_eq_false_iff_not, beq_iff_eq, beq_eq_false_iff_ne, ne_eq, bne_iff_ne, Bool.not_eq_true, ge_iff_le, gt_iff_lt] at hr) <;> try (exfalso; first | omega | exact hr rfl | (simp at hr; done) | (simp at hr; omega)))
   | (apply And.intro; · first | exact Nat.le_of_ble_eq_true rfl | (show indep _ _ = true; kernel_rfl) | decide | exact ⟨by decide, by decide⟩ | exact ⟨Nat.le_of_ble_eq_true rfl, allOne_of rfl⟩ | exact allOne_of rfl | exact ⟨by omega, by omega⟩ | exact pP)
   | (apply Exists.intro; apply And.intro; · first | exact rfl)
   | fail
  all_goals (conv => whnf)
  refine VLoop.norm [0, 3, 6, 7, 8] [] ?_
  repeat' (conv => whnf); first
   | (apply And.intro; · first | exact Nat.le_of_ble_eq_true rfl | (show indep _ _ = true; kernel_rfl) | decide | exact pP)
   | (apply Exists.intro; apply And.intro; · first | exact rfl)
   | fail
  refine VLoop.inv (fun z : Nat × Int => stG b z.1 z.2) (fun z => z.1 ≤ b.length ∧ (0 ≤ z.2 ∧ z.2 ≤ 1099511627776) ∧ bgo (prevR b z.1) z.2 (b.drop z.1) = H) (fun z => b.length - z.1) ⟨0, 0⟩ ⟨Nat.zero_le _, by decide, hH⟩ (by unfold stG; rw [← lP]; rfl) ?_
  rintro ⟨i, s⟩ ⟨hi, hs, hb⟩ ih
  simp only at hi hs hb ih
  show VLoop cx E _ (stG b i s) _
  by_cases hgo : i < b.length
  case neg =>
    rw [List.drop_eq_nil_of_le (by omega)] at hb
    obtain rfl : H = true := hb.symm
    refine VLoop.unroll hE mixed ?_
    repeat' (conv => whnf); first
     | (refine bcase_of (fun hr => ?_) (fun hr => ?_) <;> (try simp only [decide_eq_true_eq, decide_eq_false_iff_not, beq_iff_eq, beq_eq_false_iff_ne, ne_eq, bne_iff_ne, Bool.not_eq_true, ge_iff_le, gt_iff_lt] at hr) <;> try (exfalso; first | omega | exact hr rfl | (simp at hr; done) | (simp at hr; omega)))
     | (apply And.intro; · first | exact Nat.le_of_ble_eq_true rfl | (show indep _ _ = true; kernel_rfl) | decide | exact ⟨by decide, by decide⟩ | exact ⟨Nat.le_of_ble_eq_true rfl, allOne_of rfl⟩ | exact allOne_of rfl | exact ⟨by omega, by omega⟩)
     | (apply Exists.intro; apply And.intro; · first | exact rfl)
     | fail
    all_goals (conv => whnf)
    all_goals rfl
  case pos =>
    have hw : IntKind.i64.wrap ((i : Int) + 1) = ((i + 1 : Nat) : Int) := wrap64 (by omega) (by omega)
    have hm : IntKind.i64.wrap (1099511627776 - s) = 1099511627776 - s := wrap64 (by omega) (by omega)
    obtain ⟨⟨v, n⟩, hx⟩ : ∃ x, b[i]? = some x := ⟨_, List.getElem?_eq_getElem hgo⟩
    have gi := getRp hx
    rw [drop_get hx] at hb
    simp only [bgo] at hb
    by_cases h0 : i = 0
    · subst h0
      simp only [prevR, Bool.true_and] at hb
      by_cases h1 : 1 ≤ n ∧ n ≤ 1099511627776 - s
      · rw [decide_eq_true h1.1, decide_eq_true h1.2] at hb
        have hsn : IntKind.i64.wrap (s + n) = s + n := wrap64 (by omega) (by omega)
        have hnx : bgo (prevR b (0 + 1)) (s + n) (b.drop (0 + 1)) = H := by simp only [prevR, hx]; exact hb
        refine VLoop.unroll hE mixed ?_
        repeat' (conv => whnf); first
         | (refine bcase_of (fun hr => ?_) (fun hr => ?_) <;> (try simp only [decide_eq_true_eq, decide_eq_false_iff_not, beq_iff_eq, beq_eq_false_iff_ne, ne_eq, bne_iff_ne, Bool.not_eq_true, ge_iff_le, gt_iff_lt] at hr) <;> try (exfalso; first | omega | exact hr rfl | (simp at hr; done) | (simp at hr; omega)))
         | (apply And.intro; · first | exact Nat.le_of_ble_eq_true rfl | (show indep _ _ = true; kernel_rfl) | decide | exact ⟨by decide, by decide⟩ | exact ⟨Nat.le_of_ble_eq_true rfl, allOne_of rfl⟩ | exact allOne_of rfl | exact ⟨by omega, by omega⟩ | exact ⟨by omega, by rw [lP]; omega⟩)
         | (apply Exists.intro; apply And.intro; · first | exact rfl | exact gi)
         | rw [hm]
         | rw [hw]
         | rw [hsn]
         | fail
        all_goals (conv => whnf)
        refine VLoop.norm [0, 3, 6, 7, 8] [] ?_
        repeat' (conv => whnf); first
         | (apply And.intro; · first | exact Nat.le_of_ble_eq_true rfl | (show indep _ _ = true; kernel_rfl) | decide | exact pP)
         | (apply Exists.intro; apply And.intro; · first | exact rfl)
         | fail
        try rw [hw]
        try rw [hsn]
        exact ih ⟨_, s + n⟩ ⟨hgo, by omega, hnx⟩ (by simp only; omega)
      · have : (decide (1 ≤ n) && decide (n ≤ 1099511627776 - s)) = false := by simp; omega
        rw [this] at hb
        obtain rfl : H = false := hb.symm
        refine VLoop.unroll hE mixed ?_
        repeat' (conv => whnf); first
         | (refine bcase_of (fun hr => ?_) (fun hr => ?_) <;> (try simp only [decide_eq_true_eq, decide_eq_false_iff_not, beq_iff_eq, beq_eq_false_iff_ne, ne_eq, bne_iff_ne, Bool.not_eq_true, ge_iff_le, gt_iff_lt] at hr) <;> try (exfalso; first | omega | exact hr rfl | (simp at hr; done) | (simp at hr; omega)))
         | (apply And.intro; · first | exact Nat.le_of_ble_eq_true rfl | (show indep _ _ = true; kernel_rfl) | decide | exact ⟨by decide, by decide⟩ | exact ⟨Nat.le_of_ble_eq_true rfl, allOne_of rfl⟩ | exact allOne_of rfl | exact ⟨by omega, by omega⟩ | exact ⟨by omega, by rw [lP]; omega⟩)
         | (apply Exists.intro; apply And.intro; · first | exact rfl | exact gi)
         | rw [hm]
         | rw [hw]
         | fail
        all_goals (conv => whnf)
        all_goals rfl
    · obtain ⟨j, rfl⟩ : ∃ j, i = j + 1 := ⟨i - 1, by omega⟩
      obtain ⟨⟨pv, pn⟩, hy⟩ : ∃ x, b[j]? = some x := ⟨_, List.getElem?_eq_getElem (by omega)⟩
      have gj := getRp hy
      have hwj : IntKind.i64.wrap (((j + 1 : Nat) : Int) - 1) = (j : Int) := by rw [wrap64 (by omega) (by omega)]; omega
      simp only [prevR, hy, Option.map_some] at hb
      by_cases h1 : pv < v ∧ 1 ≤ n ∧ n ≤ 1099511627776 - s
      · rw [decide_eq_true h1.1, decide_eq_true h1.2.1, decide_eq_true h1.2.2] at hb
        have hsn : IntKind.i64.wrap (s + n) = s + n := wrap64 (by omega) (by omega)
        have hnx : bgo (prevR b (j + 1 + 1)) (s + n) (b.drop (j + 1 + 1)) = H := by simp only [prevR, hx]; exact hb
        refine VLoop.unroll hE mixed ?_
        repeat' (conv => whnf); first
         | (refine bcase_of (fun hr => ?_) (fun hr => ?_) <;> (try simp only [decide_eq_true_eq, decide_eq_false_iff_not, beq_iff_eq, beq_eq_false_iff_ne, ne_eq, bne_iff_ne, Bool.not_eq_true, ge_iff_le, gt_iff_lt] at hr) <;> try (exfalso; first | omega | exact hr rfl | (simp at hr; done) | (simp at hr; omega)))
         | (apply And.intro; · first | exact Nat.le_of_ble_eq_true rfl | (show indep _ _ = true; kernel_rfl) | decide | exact ⟨by decide, by decide⟩ | exact ⟨Nat.le_of_ble_eq_true rfl, allOne_of rfl⟩ | exact allOne_of rfl | exact ⟨by omega, by omega⟩ | exact ⟨by omega, by rw [lP]; omega⟩)
         | (apply Exists.intro; apply And.intro; · first | exact rfl | exact gi | exact gj)
         | rw [hm]
         | rw [hw]
         | rw [hsn]
         | rw [hwj]
         | fail
        all_goals (conv => whnf)
        refine VLoop.norm [0, 3, 6, 7, 8] [] ?_
        repeat' (conv => whnf); first
         | (apply And.intro; · first | exact Nat.le_of_ble_eq_true rfl | (show indep _ _ = true; kernel_rfl) | decide | exact pP)
         | (apply Exists.intro; apply And.intro; · first | exact rfl)
         | fail
        try rw [hw]
        try rw [hsn]
        exact ih ⟨_, s + n⟩ ⟨hgo, by omega, hnx⟩ (by simp only; omega)
      · have : (decide (pv < v) && decide (1 ≤ n) && decide (n ≤ 1099511627776 - s)) = false := by simp; omega
        rw [this] at hb
        obtain rfl : H = false := hb.symm
        refine VLoop.unroll hE mixed ?_
        repeat' (conv => whnf); first
         | (refine bcase_of (fun hr => ?_) (fun hr => ?_) <;> (try simp only [decide_eq_true_eq, decide_eq_false_iff_not, beq_iff_eq, beq_eq_false_iff_ne, ne_eq, bne_iff_ne, Bool.not_eq_true, ge_iff_le, gt_iff_lt] at hr) <;> try (exfalso; first | omega | exact hr rfl | (simp at hr; done) | (simp at hr; omega)))
         | (apply And.intro; · first | exact Nat.le_of_ble_eq_true rfl | (show indep _ _ = true; kernel_rfl) | decide | exact ⟨by decide, by decide⟩ | exact ⟨Nat.le_of_ble_eq_true rfl, allOne_of rfl⟩ | exact allOne_of rfl | exact ⟨by omega, by omega⟩ | exact ⟨by omega, by rw [lP]; omega⟩)
         | (apply Exists.intro; apply And.intro; · first | exact rfl | exact gi | exact gj)
         | rw [hm]
         | rw [hw]
         | rw [hwj]
         | fail
        all_goals (conv => whnf)
        all_goals rfl
theorem goodB8_ok (b : RL) (hl : b.length ≤ 1000000) : PTriple Tryd.prog gv 58 [bagV b] (.bool (goodB b)) := by
  have pP := pure_R b
  have lP := lenR b
  generalize hH : goodB b = H
  refine PTriple.of_body (C := cx) Tryd.func58 rfl (by kernel_rfl) mixed fun E hE => ?_
  repeat' (conv => whnf); first
   | (refine bcase_of (fun hr => ?_) (fun hr => ?_) <;> (try simp only [decide_eq_true_eq, decide_eq_false_iff_not, beq_iff_eq, beq_eq_false_iff_ne, ne_eq, bne_iff_ne, Bool.not_eq_true, ge_iff_le, gt_iff_lt] at hr) <;> try (exfalso; first | omega | exact hr rfl | (simp at hr; done) | (simp at hr; omega)))
   | (apply And.intro; · first | exact Nat.le_of_ble_eq_true rfl | (show indep _ _ = true; kernel_rfl) | decide | exact ⟨by decide, by decide⟩ | exact ⟨Nat.le_of_ble_eq_true rfl, allOne_of rfl⟩ | exact allOne_of rfl | exact ⟨by omega, by omega⟩ | exact pP)
   | (apply Exists.intro; apply And.intro; · first | exact rfl)
   | fail
  all_goals (conv => whnf)
  refine VLoop.norm [0, 3, 4] [] ?_
  repeat' (conv => whnf); first
   | (apply And.intro; · first | exact Nat.le_of_ble_eq_true rfl | (show indep _ _ = true; kernel_rfl) | decide | exact pP)
   | (apply Exists.intro; apply And.intro; · first | exact rfl)
   | fail
  refine VLoop.inv (fun z : Nat × Int => stG8 b z.1 z.2) (fun z => z.1 ≤ b.length ∧ (0 ≤ z.2 ∧ z.2 ≤ 1099511627776) ∧ bgo (prevR b z.1) z.2 (b.drop z.1) = H) (fun z => b.length - z.1) ⟨0, 0⟩ ⟨Nat.zero_le _, by decide, hH⟩ (by rfl) ?_
  rintro ⟨i, s⟩ ⟨hi, hs, hb⟩ ih
  simp only at hi hs hb ih
  show VLoop cx E _ (stG8 b i s) _
  by_cases hgo : i < b.length
  case neg =>
    rw [List.drop_eq_nil_of_le (by omega)] at hb
    obtain rfl : H = true := hb.symm
    refine VLoop.unroll hE mixed ?_
    repeat' (conv => whnf); first
     | (refine bcase_of (fun hr => ?_) (fun hr => ?_) <;> (try simp only [decide_eq_true_eq, decide_eq_false_iff_not, beq_iff_eq, beq_eq_false_iff_ne, ne_eq, bne_iff_ne, Bool.not_eq_true, ge_iff_le, gt_iff_lt] at hr) <;> try (exfalso; first | omega | exact hr rfl | (simp at hr; done) | (simp at hr; omega)))
     | (apply And.intro; · first | exact Nat.le_of_ble_eq_true rfl | (show indep _ _ = true; kernel_rfl) | decide | exact ⟨by decide, by decide⟩ | exact ⟨Nat.le_of_ble_eq_true rfl, allOne_of rfl⟩ | exact allOne_of rfl | exact ⟨by omega, by omega⟩)
     | (apply Exists.intro; apply And.intro; · first | exact rfl)
     | fail
    all_goals (conv => whnf)
    all_goals rfl
  case pos =>
    have hw : IntKind.i64.wrap ((i : Int) + 1) = ((i + 1 : Nat) : Int) := wrap64 (by omega) (by omega)
    have hm : IntKind.i64.wrap (1099511627776 - s) = 1099511627776 - s := wrap64 (by omega) (by omega)
    obtain ⟨⟨v, n⟩, hx⟩ : ∃ x, b[i]? = some x := ⟨_, List.getElem?_eq_getElem hgo⟩
    have gi := getRp hx
    rw [drop_get hx] at hb
    simp only [bgo] at hb
    by_cases h0 : i = 0
    · subst h0
      simp only [prevR, Bool.true_and] at hb
      by_cases h1 : 1 ≤ n ∧ n ≤ 1099511627776 - s
      · rw [decide_eq_true h1.1, decide_eq_true h1.2] at hb
        have hsn : IntKind.i64.wrap (s + n) = s + n := wrap64 (by omega) (by omega)
        have hnx : bgo (prevR b (0 + 1)) (s + n) (b.drop (0 + 1)) = H := by simp only [prevR, hx]; exact hb
        refine VLoop.unroll hE mixed ?_
        repeat' (conv => whnf); first
         | (refine bcase_of (fun hr => ?_) (fun hr => ?_) <;> (try simp only [decide_eq_true_eq, decide_eq_false_iff_not, beq_iff_eq, beq_eq_false_iff_ne, ne_eq, bne_iff_ne, Bool.not_eq_true, ge_iff_le, gt_iff_lt] at hr) <;> try (exfalso; first | omega | exact hr rfl | (simp at hr; done) | (simp at hr; omega)))
         | (apply And.intro; · first | exact Nat.le_of_ble_eq_true rfl | (show indep _ _ = true; kernel_rfl) | decide | exact ⟨by decide, by decide⟩ | exact ⟨Nat.le_of_ble_eq_true rfl, allOne_of rfl⟩ | exact allOne_of rfl | exact ⟨by omega, by omega⟩ | exact ⟨by omega, by rw [lP]; omega⟩)
         | (apply Exists.intro; apply And.intro; · first | exact rfl | exact gi)
         | rw [hm]
         | rw [hw]
         | rw [hsn]
         | fail
        all_goals (conv => whnf)
        refine VLoop.norm [0, 3, 4] [] ?_
        repeat' (conv => whnf); first
         | (apply And.intro; · first | exact Nat.le_of_ble_eq_true rfl | (show indep _ _ = true; kernel_rfl) | decide | exact pP)
         | (apply Exists.intro; apply And.intro; · first | exact rfl)
         | fail
        try rw [hw]
        try rw [hsn]
        exact ih ⟨_, s + n⟩ ⟨hgo, by omega, hnx⟩ (by simp only; omega)
      · have : (decide (1 ≤ n) && decide (n ≤ 1099511627776 - s)) = false := by simp; omega
        rw [this] at hb
        obtain rfl : H = false := hb.symm
        refine VLoop.unroll hE mixed ?_
        repeat' (conv => whnf); first
         | (refine bcase_of (fun hr => ?_) (fun hr => ?_) <;> (try simp only [decide_eq_true_eq, decide_eq_false_iff_not, beq_iff_eq, beq_eq_false_iff_ne, ne_eq, bne_iff_ne, Bool.not_eq_true, ge_iff_le, gt_iff_lt] at hr) <;> try (exfalso; first | omega | exact hr rfl | (simp at hr; done) | (simp at hr; omega)))
         | (apply And.intro; · first | exact Nat.le_of_ble_eq_true rfl | (show indep _ _ = true; kernel_rfl) | decide | exact ⟨by decide, by decide⟩ | exact ⟨Nat.le_of_ble_eq_true rfl, allOne_of rfl⟩ | exact allOne_of rfl | exact ⟨by omega, by omega⟩ | exact ⟨by omega, by rw [lP]; omega⟩)
         | (apply Exists.intro; apply And.intro; · first | exact rfl | exact gi)
         | rw [hm]
         | rw [hw]
         | fail
        all_goals (conv => whnf)
        all_goals rfl
    · obtain ⟨j, rfl⟩ : ∃ j, i = j + 1 := ⟨i - 1, by omega⟩
      obtain ⟨⟨pv, pn⟩, hy⟩ : ∃ x, b[j]? = some x := ⟨_, List.getElem?_eq_getElem (by omega)⟩
      have gj := getRp hy
      have hwj : IntKind.i64.wrap (((j + 1 : Nat) : Int) - 1) = (j : Int) := by rw [wrap64 (by omega) (by omega)]; omega
      simp only [prevR, hy, Option.map_some] at hb
      by_cases h1 : pv < v ∧ 1 ≤ n ∧ n ≤ 1099511627776 - s
      · rw [decide_eq_true h1.1, decide_eq_true h1.2.1, decide_eq_true h1.2.2] at hb
        have hsn : IntKind.i64.wrap (s + n) = s + n := wrap64 (by omega) (by omega)
        have hnx : bgo (prevR b (j + 1 + 1)) (s + n) (b.drop (j + 1 + 1)) = H := by simp only [prevR, hx]; exact hb
        refine VLoop.unroll hE mixed ?_
        repeat' (conv => whnf); first
         | (refine bcase_of (fun hr => ?_) (fun hr => ?_) <;> (try simp only [decide_eq_true_eq, decide_eq_false_iff_not, beq_iff_eq, beq_eq_false_iff_ne, ne_eq, bne_iff_ne, Bool.not_eq_true, ge_iff_le, gt_iff_lt] at hr) <;> try (exfalso; first | omega | exact hr rfl | (simp at hr; done) | (simp at hr; omega)))
         | (apply And.intro; · first | exact Nat.le_of_ble_eq_true rfl | (show indep _ _ = true; kernel_rfl) | decide | exact ⟨by decide, by decide⟩ | exact ⟨Nat.le_of_ble_eq_true rfl, allOne_of rfl⟩ | exact allOne_of rfl | exact ⟨by omega, by omega⟩ | exact ⟨by omega, by rw [lP]; omega⟩)
         | (apply Exists.intro; apply And.intro; · first | exact rfl | exact gi | exact gj)
         | rw [hm]
         | rw [hw]
         | rw [hsn]
         | rw [hwj]
         | fail
        all_goals (conv => whnf)
        refine VLoop.norm [0, 3, 4] [] ?_
        repeat' (conv => whnf); first
         | (apply And.intro; · first | exact Nat.le_of_ble_eq_true rfl | (show indep _ _ = true; kernel_rfl) | decide | exact pP)
         | (apply Exists.intro; apply And.intro; · first | exact rfl)
         | fail
        try rw [hw]
        try rw [hsn]
        exact ih ⟨_, s + n⟩ ⟨hgo, by omega, hnx⟩ (by simp only; omega)
      · have : (decide (pv < v) && decide (1 ≤ n) && decide (n ≤ 1099511627776 - s)) = false := by simp; omega
        rw [this] at hb
        obtain rfl : H = false := hb.symm
        refine VLoop.unroll hE mixed ?_
        repeat' (conv => whnf); first
         | (refine bcase_of (fun hr => ?_) (fun hr => ?_) <;> (try simp only [decide_eq_true_eq, decide_eq_false_iff_not, beq_iff_eq, beq_eq_false_iff_ne, ne_eq, bne_iff_ne, Bool.not_eq_true, ge_iff_le, gt_iff_lt] at hr) <;> try (exfalso; first | omega | exact hr rfl | (simp at hr; done) | (simp at hr; omega)))
         | (apply And.intro; · first | exact Nat.le_of_ble_eq_true rfl | (show indep _ _ = true; kernel_rfl) | decide | exact ⟨by decide, by decide⟩ | exact ⟨Nat.le_of_ble_eq_true rfl, allOne_of rfl⟩ | exact allOne_of rfl | exact ⟨by omega, by omega⟩ | exact ⟨by omega, by rw [lP]; omega⟩)
         | (apply Exists.intro; apply And.intro; · first | exact rfl | exact gi | exact gj)
         | rw [hm]
         | rw [hw]
         | rw [hwj]
         | fail
        all_goals (conv => whnf)
        all_goals rfl
end Go.Proofs.YtbppemcdphgknaaDoor
/- Chapter 13: how many values, and all together. -/
namespace Go.Proofs.YtbppemcdphgknaaDoor
open Go Go.Vm
set_option maxRecDepth 100000
set_option maxHeartbeats 40000000
set_option linter.unusedSimpArgs false
set_option linter.unusedVariables false
def cntB (b : RL) : Int := (b.map (·.2)).sum
def wsum (b : RL) : Int := (b.map fun r => r.1 * r.2).sum
theorem cnt_app (a b : RL) : cntB (a ++ b) = cntB a + cntB b := by simp [cntB]
theorem wsum_app (a b : RL) : wsum (a ++ b) = wsum a + wsum b := by simp [wsum]
theorem cnt_snoc (a : RL) (v n : Int) : cntB (a ++ [(v, n)]) = cntB a + n := by simp [cntB]
theorem wsum_snoc (a : RL) (v n : Int) : wsum (a ++ [(v, n)]) = wsum a + v * n := by simp [wsum]
theorem bgo_sum : ∀ {b : RL} {p : Option Int} {s : Int}, bgo p s b = true → 0 ≤ s ∧ s ≤ 1099511627776 → (∀ r ∈ b, 1 ≤ r.2 ∧ r.2 ≤ 1099511627776) ∧ ∀ i, 0 ≤ s + cntB (b.take i) ∧ s + cntB (b.take i) ≤ 1099511627776
  | [], p, s, _, hs => ⟨fun r h => (by cases h), fun i => by simp [cntB]; exact hs⟩
  | (v, n) :: r, p, s, h, hs => by
    simp only [bgo, Bool.and_eq_true, decide_eq_true_eq] at h
    obtain ⟨⟨⟨_, h1⟩, h2⟩, h3⟩ := h
    obtain ⟨i1, i2⟩ := bgo_sum h3 (by omega)
    refine ⟨fun x hx => ?_, fun i => ?_⟩
    · rcases List.mem_cons.1 hx with rfl | hx
      · exact ⟨h1, by show n ≤ _; omega⟩
      · exact i1 x hx
    · cases i with
      | zero => simp [cntB]; exact hs
      | succ i =>
        have := i2 i
        have e : cntB (((v, n) :: r).take (i + 1)) = n + cntB (r.take i) := by simp [cntB]
        rw [e]; omega
theorem good_sum {b : RL} (h : goodB b = true) : (∀ r ∈ b, 1 ≤ r.2 ∧ r.2 ≤ 1099511627776) ∧ ∀ i, 0 ≤ cntB (b.take i) ∧ cntB (b.take i) ≤ 1099511627776 := by
  obtain ⟨h1, h2⟩ := bgo_sum h (by decide)
  exact ⟨h1, fun i => by have := h2 i; omega⟩
theorem wsum_le : ∀ {b : RL}, (∀ r ∈ b, in64 r.1 ∧ 0 ≤ r.2) → -(9223372036854775808 * cntB b) ≤ wsum b ∧ wsum b ≤ 9223372036854775808 * cntB b
  | [], _ => by simp [cntB, wsum]
  | (v, n) :: r, h => by
    obtain ⟨i1, i2⟩ := wsum_le (b := r) fun x hx => h x (by simp [hx])
    obtain ⟨⟨h1, h2⟩, h3⟩ := h (v, n) (by simp)
    simp only at h1 h2 h3
    have e1 : cntB ((v, n) :: r) = n + cntB r := by simp [cntB]
    have e2 : wsum ((v, n) :: r) = v * n + wsum r := by simp [wsum]
    have m1 : v * n ≤ 9223372036854775808 * n := Int.mul_le_mul_of_nonneg_right (by omega) h3
    have m2 : -9223372036854775808 * n ≤ v * n := Int.mul_le_mul_of_nonneg_right (by omega) h3
    rw [e1, e2]
    omega
theorem wsum_128 {b : RL} (h : goodB b = true) (h6 : ∀ r ∈ b, in64 r.1) (i : Nat) : -10141204801825835211973625643008 ≤ wsum (b.take i) ∧ wsum (b.take i) ≤ 10141204801825835211973625643008 := by
  obtain ⟨h1, h2⟩ := good_sum h
  have := wsum_le (b := b.take i) fun r hr => ⟨h6 r (List.mem_of_mem_take hr), by have := h1 r (List.mem_of_mem_take hr); omega⟩
  have := h2 i
  omega
def wideC (n : Int) : List V := [.int .i64 (IntKind.i64.wrap (n / 18446744073709551616)), .int .u64 (n % 18446744073709551616)]
def stCn (b : RL) (i : Nat) : St DV := mkSt 18 [(0, bagV b), (3, i64V (cntB (b.take i))), (6, bagV b), (7, i64V b.length), (8, i64V i)] [] []
def stC8 (b : RL) (i : Nat) : St DV := mkSt 23 [(0, bagV b), (3, i64V (cntB (b.take i))), (4, i64V i)] [] []
def stPt (b : RL) (i : Nat) : St DV := mkSt 38 [(0, bagV b), (1, .nils), (4, .ref (5, 1) 0), (5, .ref (6, 1) 0), (10, bagV b), (11, i64V b.length), (12, i64V i)] [(4, .box [i64V 0, .int .u64 0]), (5, .box (wideC (wsum (b.take i))))] []
theorem cnt_ok (b : RL) (hl : b.length ≤ 1000000) (hg : goodB b = true) : PTriple Tryd.prog gv 114 [bagV b] (i64V (cntB b)) := by
  have pP := pure_R b
  have lP := lenR b
  obtain ⟨g1, g2⟩ := good_sum hg
  refine PTriple.of_body (C := cx) Tryd.func114 rfl (by kernel_rfl) mixed fun E hE => ?_
  repeat' (conv => whnf); first
   | (refine bcase_of (fun hr => ?_) (fun hr => ?_) <;> (try simp only [decide_eq_true_eq, decide_eq_false_iff_not, beq_iff_eq, beq_eq_false_iff_ne, ne_eq, bne_iff_ne, Bool.not_eq_true, ge_iff_le, gt_iff_lt] at hr) <;> try (exfalso; first | omega | exact hr rfl | (simp at hr; done) | (simp at hr; omega)))
   | (apply And.intro; · first | exact Nat.le_of_ble_eq_true rfl | (show indep _ _ = true; kernel_rfl) | decide | exact ⟨by decide, by decide⟩ | exact ⟨Nat.le_of_ble_eq_true rfl, allOne_of rfl⟩ | exact allOne_of rfl | exact ⟨by omega, by omega⟩)
   | (apply Exists.intro; apply And.intro; · first | exact rfl)
   | fail
  all_goals (conv => whnf)
  refine VLoop.norm [0, 3, 6, 7, 8] [] ?_
  repeat' (conv => whnf); first
   | (apply And.intro; · first | exact Nat.le_of_ble_eq_true rfl | (show indep _ _ = true; kernel_rfl) | decide | exact pP)
   | (apply Exists.intro; apply And.intro; · first | exact rfl)
   | fail
  refine VLoop.inv (fun i : Nat => stCn b i) (fun i => i ≤ b.length) (fun i => b.length - i) 0 (Nat.zero_le _) (by unfold stCn; rw [← lP]; rfl) ?_
  intro i hi ih
  refine VLoop.unroll hE mixed ?_
  by_cases hgo : i < b.length
  case pos =>
    have hw : IntKind.i64.wrap ((i : Int) + 1) = ((i + 1 : Nat) : Int) := wrap64 (by omega) (by omega)
    obtain ⟨⟨v, n⟩, hx⟩ : ∃ x, b[i]? = some x := ⟨_, List.getElem?_eq_getElem hgo⟩
    have gi := getRp hx
    have hs : cntB (b.take (i + 1)) = cntB (b.take i) + n := by rw [take_get hx, cnt_snoc]
    have hb := g2 i
    have hb2 := g2 (i + 1)
    have hsn : IntKind.i64.wrap (cntB (b.take i) + n) = cntB (b.take (i + 1)) := by rw [← hs]; exact wrap64 (by omega) (by omega)
    repeat' (conv => whnf); first
     | (refine bcase_of (fun hr => ?_) (fun hr => ?_) <;> (try simp only [decide_eq_true_eq, decide_eq_false_iff_not, beq_iff_eq, beq_eq_false_iff_ne, ne_eq, bne_iff_ne, Bool.not_eq_true, ge_iff_le, gt_iff_lt] at hr) <;> try (exfalso; first | omega | exact hr rfl | (simp at hr; done) | (simp at hr; omega)))
     | (apply And.intro; · first | exact Nat.le_of_ble_eq_true rfl | (show indep _ _ = true; kernel_rfl) | decide | exact ⟨by decide, by decide⟩ | exact ⟨Nat.le_of_ble_eq_true rfl, allOne_of rfl⟩ | exact allOne_of rfl | exact ⟨by omega, by omega⟩ | exact ⟨by omega, by rw [lP]; omega⟩)
     | (apply Exists.intro; apply And.intro; · first | exact rfl | exact gi)
     | rw [hw]
     | rw [hsn]
     | fail
    all_goals (conv => whnf)
    refine VLoop.norm [0, 3, 6, 7, 8] [] ?_
    repeat' (conv => whnf); first
     | (apply And.intro; · first | exact Nat.le_of_ble_eq_true rfl | (show indep _ _ = true; kernel_rfl) | decide | exact pP)
     | (apply Exists.intro; apply And.intro; · first | exact rfl)
     | fail
    try rw [hw]
    try rw [hsn]
    exact ih (i + 1) hgo (by omega)
  case neg =>
    have he : cntB b = cntB (b.take i) := by rw [List.take_of_length_le (by omega)]
    rw [he]
    repeat' (conv => whnf); first
     | (refine bcase_of (fun hr => ?_) (fun hr => ?_) <;> (try simp only [decide_eq_true_eq, decide_eq_false_iff_not, beq_iff_eq, beq_eq_false_iff_ne, ne_eq, bne_iff_ne, Bool.not_eq_true, ge_iff_le, gt_iff_lt] at hr) <;> try (exfalso; first | omega | exact hr rfl | (simp at hr; done) | (simp at hr; omega)))
     | (apply And.intro; · first | exact Nat.le_of_ble_eq_true rfl | (show indep _ _ = true; kernel_rfl) | decide | exact ⟨by decide, by decide⟩ | exact ⟨Nat.le_of_ble_eq_true rfl, allOne_of rfl⟩ | exact allOne_of rfl | exact ⟨by omega, by omega⟩)
     | (apply Exists.intro; apply And.intro; · first | exact rfl)
     | fail
    all_goals (conv => whnf)
    all_goals rfl
theorem Count_ok (b : RL) (hl : b.length ≤ 1000000) : PTriple Tryd.prog gv 101 [bagV b] (i64V (if goodB b then cntB b else 0)) := by
  have pP := pure_R b
  have c1 := goodB_ok b hl
  cases hg : goodB b with
  | true =>
    rw [hg] at c1
    have c2 := cnt_ok b hl hg
    refine PTriple.of_body (C := cx) Tryd.func101 rfl (by kernel_rfl) mixed fun E hE => ?_
    repeat' (conv => whnf); first
     | (refine bcase_of (fun hr => ?_) (fun hr => ?_) <;> (try simp only [decide_eq_true_eq, decide_eq_false_iff_not, beq_iff_eq, beq_eq_false_iff_ne, ne_eq, bne_iff_ne, Bool.not_eq_true, ge_iff_le, gt_iff_lt] at hr) <;> try (exfalso; first | omega | exact hr rfl | (simp at hr; done) | (simp at hr; omega)))
     | (apply And.intro; · first | exact Nat.le_of_ble_eq_true rfl | (show indep _ _ = true; kernel_rfl) | decide | exact ⟨by decide, by decide⟩ | exact ⟨Nat.le_of_ble_eq_true rfl, allOne_of rfl⟩ | exact allOne_of rfl | exact ⟨by omega, by omega⟩ | exact pP)
     | (apply Exists.intro; apply And.intro; · first | exact rfl | exact c1 | exact c2)
     | fail
    all_goals (conv => whnf)
    all_goals rfl
  | false =>
    rw [hg] at c1
    refine PTriple.of_body (C := cx) Tryd.func101 rfl (by kernel_rfl) mixed fun E hE => ?_
    repeat' (conv => whnf); first
     | (refine bcase_of (fun hr => ?_) (fun hr => ?_) <;> (try simp only [decide_eq_true_eq, decide_eq_false_iff_not, beq_iff_eq, beq_eq_false_iff_ne, ne_eq, bne_iff_ne, Bool.not_eq_true, ge_iff_le, gt_iff_lt] at hr) <;> try (exfalso; first | omega | exact hr rfl | (simp at hr; done) | (simp at hr; omega)))
     | (apply And.intro; · first | exact Nat.le_of_ble_eq_true rfl | (show indep _ _ = true; kernel_rfl) | decide | exact ⟨by decide, by decide⟩ | exact ⟨Nat.le_of_ble_eq_true rfl, allOne_of rfl⟩ | exact allOne_of rfl | exact ⟨by omega, by omega⟩ | exact pP)
     | (apply Exists.intro; apply And.intro; · first | exact rfl | exact c1)
     | fail
    all_goals (conv => whnf)
    all_goals rfl
theorem Count8_ok (b : RL) (hl : b.length ≤ 1000000) : PTriple Tryd.prog gv 59 [bagV b] (i64V (if goodB b then cntB b else 0)) := by
  have pP := pure_R b
  have lP := lenR b
  have c1 := goodB8_ok b hl
  cases hg : goodB b with
  | false =>
    rw [hg] at c1
    refine PTriple.of_body (C := cx) Tryd.func59 rfl (by kernel_rfl) mixed fun E hE => ?_
    repeat' (conv => whnf); first
     | (refine bcase_of (fun hr => ?_) (fun hr => ?_) <;> (try simp only [decide_eq_true_eq, decide_eq_false_iff_not, beq_iff_eq, beq_eq_false_iff_ne, ne_eq, bne_iff_ne, Bool.not_eq_true, ge_iff_le, gt_iff_lt] at hr) <;> try (exfalso; first | omega | exact hr rfl | (simp at hr; done) | (simp at hr; omega)))
     | (apply And.intro; · first | exact Nat.le_of_ble_eq_true rfl | (show indep _ _ = true; kernel_rfl) | decide | exact ⟨by decide, by decide⟩ | exact ⟨Nat.le_of_ble_eq_true rfl, allOne_of rfl⟩ | exact allOne_of rfl | exact ⟨by omega, by omega⟩)
     | (apply Exists.intro; apply And.intro; · first | exact rfl)
     | fail
    all_goals (conv => whnf)
    refine VLoop.unroll hE mixed ?_
    repeat' (conv => whnf); first
     | (refine bcase_of (fun hr => ?_) (fun hr => ?_) <;> (try simp only [decide_eq_true_eq, decide_eq_false_iff_not, beq_iff_eq, beq_eq_false_iff_ne, ne_eq, bne_iff_ne, Bool.not_eq_true, ge_iff_le, gt_iff_lt] at hr) <;> try (exfalso; first | omega | exact hr rfl | (simp at hr; done) | (simp at hr; omega)))
     | (apply And.intro; · first | exact Nat.le_of_ble_eq_true rfl | (show indep _ _ = true; kernel_rfl) | decide | exact ⟨by decide, by decide⟩ | exact ⟨Nat.le_of_ble_eq_true rfl, allOne_of rfl⟩ | exact allOne_of rfl | exact ⟨by omega, by omega⟩ | exact pP)
     | (apply Exists.intro; apply And.intro; · first | exact rfl | exact c1)
     | fail
    all_goals (conv => whnf)
    all_goals rfl
  | true =>
  rw [hg] at c1
  obtain ⟨g1, g2⟩ := good_sum hg
  refine PTriple.of_body (C := cx) Tryd.func59 rfl (by kernel_rfl) mixed fun E hE => ?_
  repeat' (conv => whnf); first
   | (refine bcase_of (fun hr => ?_) (fun hr => ?_) <;> (try simp only [decide_eq_true_eq, decide_eq_false_iff_not, beq_iff_eq, beq_eq_false_iff_ne, ne_eq, bne_iff_ne, Bool.not_eq_true, ge_iff_le, gt_iff_lt] at hr) <;> try (exfalso; first | omega | exact hr rfl | (simp at hr; done) | (simp at hr; omega)))
   | (apply And.intro; · first | exact Nat.le_of_ble_eq_true rfl | (show indep _ _ = true; kernel_rfl) | decide | exact ⟨by decide, by decide⟩ | exact ⟨Nat.le_of_ble_eq_true rfl, allOne_of rfl⟩ | exact allOne_of rfl | exact ⟨by omega, by omega⟩)
   | (apply Exists.intro; apply And.intro; · first | exact rfl)
   | fail
  all_goals (conv => whnf)
  refine VLoop.norm [0, 3, 4] [] ?_
  repeat' (conv => whnf); first
   | (apply And.intro; · first | exact Nat.le_of_ble_eq_true rfl | (show indep _ _ = true; kernel_rfl) | decide | exact pP)
   | (apply Exists.intro; apply And.intro; · first | exact rfl)
   | fail
  refine VLoop.inv (fun i : Nat => stC8 b i) (fun i => i ≤ b.length) (fun i => b.length - i) 0 (Nat.zero_le _) rfl ?_
  intro i hi ih
  refine VLoop.unroll hE mixed ?_
  by_cases hgo : i < b.length
  case pos =>
    have hw : IntKind.i64.wrap ((i : Int) + 1) = ((i + 1 : Nat) : Int) := wrap64 (by omega) (by omega)
    obtain ⟨⟨v, n⟩, hx⟩ : ∃ x, b[i]? = some x := ⟨_, List.getElem?_eq_getElem hgo⟩
    have gi := getRp hx
    have hs : cntB (b.take (i + 1)) = cntB (b.take i) + n := by rw [take_get hx, cnt_snoc]
    have hb := g2 i
    have hb2 := g2 (i + 1)
    have hsn : IntKind.i64.wrap (cntB (b.take i) + n) = cntB (b.take (i + 1)) := by rw [← hs]; exact wrap64 (by omega) (by omega)
    repeat' (conv => whnf); first
     | (refine bcase_of (fun hr => ?_) (fun hr => ?_) <;> (try simp only [decide_eq_true_eq, decide_eq_false_iff_not, beq_iff_eq, beq_eq_false_iff_ne, ne_eq, bne_iff_ne, Bool.not_eq_true, ge_iff_le, gt_iff_lt] at hr) <;> try (exfalso; first | omega | exact hr rfl | (simp at hr; done) | (simp at hr; omega)))
     | (apply And.intro; · first | exact Nat.le_of_ble_eq_true rfl | (show indep _ _ = true; kernel_rfl) | decide | exact ⟨by decide, by decide⟩ | exact ⟨Nat.le_of_ble_eq_true rfl, allOne_of rfl⟩ | exact allOne_of rfl | exact ⟨by omega, by omega⟩ | exact pP | exact ⟨by omega, by rw [lP]; omega⟩)
     | (apply Exists.intro; apply And.intro; · first | exact rfl | exact c1 | exact gi)
     | rw [hw]
     | rw [hsn]
     | fail
    all_goals (conv => whnf)
    refine VLoop.norm [0, 3, 4] [] ?_
    repeat' (conv => whnf); first
     | (apply And.intro; · first | exact Nat.le_of_ble_eq_true rfl | (show indep _ _ = true; kernel_rfl) | decide | exact pP)
     | (apply Exists.intro; apply And.intro; · first | exact rfl)
     | fail
    try rw [hw]
    try rw [hsn]
    exact ih (i + 1) hgo (by omega)
  case neg =>
    have he : cntB b = cntB (b.take i) := by rw [List.take_of_length_le (by omega)]
    rw [he]
    repeat' (conv => whnf); first
     | (refine bcase_of (fun hr => ?_) (fun hr => ?_) <;> (try simp only [decide_eq_true_eq, decide_eq_false_iff_not, beq_iff_eq, beq_eq_false_iff_ne, ne_eq, bne_iff_ne, Bool.not_eq_true, ge_iff_le, gt_iff_lt] at hr) <;> try (exfalso; first | omega | exact hr rfl | (simp at hr; done) | (simp at hr; omega)))
     | (apply And.intro; · first | exact Nat.le_of_ble_eq_true rfl | (show indep _ _ = true; kernel_rfl) | decide | exact ⟨by decide, by decide⟩ | exact ⟨Nat.le_of_ble_eq_true rfl, allOne_of rfl⟩ | exact allOne_of rfl | exact ⟨by omega, by omega⟩ | exact pP)
     | (apply Exists.intro; apply And.intro; · first | exact rfl | exact c1)
     | fail
    all_goals (conv => whnf)
    all_goals rfl
theorem part_ok (b : RL) (hl : b.length ≤ 1000000) (h6 : ∀ r ∈ b, in64 r.1 ∧ in64 r.2) : PTriple Tryd.prog gv 99 [bagV b, .nils] (wide (wsum b)) := by
  have pP := pure_R b
  have lP := lenR b
  refine PTriple.of_body (C := cx) Tryd.func99 rfl (by kernel_rfl) mixed fun E hE => ?_
  repeat' (conv => whnf); first
   | (refine bcase_of (fun hr => ?_) (fun hr => ?_) <;> (try simp only [decide_eq_true_eq, decide_eq_false_iff_not, beq_iff_eq, beq_eq_false_iff_ne, ne_eq, bne_iff_ne, Bool.not_eq_true, ge_iff_le, gt_iff_lt] at hr) <;> try (exfalso; first | omega | exact hr rfl | (simp at hr; done) | (simp at hr; omega)))
   | (apply And.intro; · first | exact Nat.le_of_ble_eq_true rfl | (show indep _ _ = true; kernel_rfl) | decide | exact ⟨by decide, by decide⟩ | exact ⟨Nat.le_of_ble_eq_true rfl, allOne_of rfl⟩ | exact allOne_of rfl | exact ⟨by omega, by omega⟩)
   | (apply Exists.intro; apply And.intro; · first | exact rfl)
   | fail
  all_goals (conv => whnf)
  refine VLoop.norm [0, 1, 4, 5, 10, 11, 12] [4, 5] ?_
  repeat' (conv => whnf); first
   | (apply And.intro; · first | exact Nat.le_of_ble_eq_true rfl | (show indep _ _ = true; kernel_rfl) | decide | exact pP)
   | (apply Exists.intro; apply And.intro; · first | exact rfl)
   | fail
  refine VLoop.inv (fun i : Nat => stPt b i) (fun i => i ≤ b.length) (fun i => b.length - i) 0 (Nat.zero_le _) (by unfold stPt; rw [← lP]; rfl) ?_
  intro i hi ih
  refine VLoop.unroll hE mixed ?_
  by_cases hgo : i < b.length
  case pos =>
    have hw : IntKind.i64.wrap ((i : Int) + 1) = ((i + 1 : Nat) : Int) := wrap64 (by omega) (by omega)
    obtain ⟨⟨v, n⟩, hx⟩ : ∃ x, b[i]? = some x := ⟨_, List.getElem?_eq_getElem hgo⟩
    have gi := getRp hx
    obtain ⟨k1, k2⟩ := h6 _ (List.mem_of_getElem? hx)
    have c := ok113 (wsum (b.take i)) v n k1 k2
    have hs : wsum (b.take (i + 1)) = wsum (b.take i) + v * n := by rw [take_get hx, wsum_snoc]
    rw [← hs] at c
    repeat' (conv => whnf); first
     | (refine bcase_of (fun hr => ?_) (fun hr => ?_) <;> (try simp only [decide_eq_true_eq, decide_eq_false_iff_not, beq_iff_eq, beq_eq_false_iff_ne, ne_eq, bne_iff_ne, Bool.not_eq_true, ge_iff_le, gt_iff_lt] at hr) <;> try (exfalso; first | omega | exact hr rfl | (simp at hr; done) | (simp at hr; omega)))
     | (apply And.intro; · first | exact Nat.le_of_ble_eq_true rfl | (show indep _ _ = true; kernel_rfl) | decide | exact ⟨by decide, by decide⟩ | exact ⟨Nat.le_of_ble_eq_true rfl, allOne_of rfl⟩ | exact allOne_of rfl | exact ⟨by omega, by omega⟩ | exact pP | exact ⟨by omega, by rw [lP]; omega⟩)
     | (apply Exists.intro; apply And.intro; · first | exact rfl | exact c | exact gi)
     | rw [hw]
     | fail
    all_goals (conv => whnf)
    refine VLoop.norm [0, 1, 4, 5, 10, 11, 12] [4, 5] ?_
    repeat' (conv => whnf); first
     | (apply And.intro; · first | exact Nat.le_of_ble_eq_true rfl | (show indep _ _ = true; kernel_rfl) | decide | exact pP)
     | (apply Exists.intro; apply And.intro; · first | exact rfl)
     | fail
    try rw [hw]
    exact ih (i + 1) hgo (by omega)
  case neg =>
    have he : wsum b = wsum (b.take i) := by rw [List.take_of_length_le (by omega)]
    rw [he]
    repeat' (conv => whnf); first
     | (refine bcase_of (fun hr => ?_) (fun hr => ?_) <;> (try simp only [decide_eq_true_eq, decide_eq_false_iff_not, beq_iff_eq, beq_eq_false_iff_ne, ne_eq, bne_iff_ne, Bool.not_eq_true, ge_iff_le, gt_iff_lt] at hr) <;> try (exfalso; first | omega | exact hr rfl | (simp at hr; done) | (simp at hr; omega)))
     | (apply And.intro; · first | exact Nat.le_of_ble_eq_true rfl | (show indep _ _ = true; kernel_rfl) | decide | exact ⟨by decide, by decide⟩ | exact ⟨Nat.le_of_ble_eq_true rfl, allOne_of rfl⟩ | exact allOne_of rfl | exact ⟨by omega, by omega⟩)
     | (apply Exists.intro; apply And.intro; · first | exact rfl)
     | fail
    all_goals (conv => whnf)
    refine VLoop.unroll hE mixed ?_
    repeat' (conv => whnf); first
     | (refine bcase_of (fun hr => ?_) (fun hr => ?_) <;> (try simp only [decide_eq_true_eq, decide_eq_false_iff_not, beq_iff_eq, beq_eq_false_iff_ne, ne_eq, bne_iff_ne, Bool.not_eq_true, ge_iff_le, gt_iff_lt] at hr) <;> try (exfalso; first | omega | exact hr rfl | (simp at hr; done) | (simp at hr; omega)))
     | (apply And.intro; · first | exact Nat.le_of_ble_eq_true rfl | (show indep _ _ = true; kernel_rfl) | decide | exact ⟨by decide, by decide⟩ | exact ⟨Nat.le_of_ble_eq_true rfl, allOne_of rfl⟩ | exact allOne_of rfl | exact ⟨by omega, by omega⟩)
     | (apply Exists.intro; apply And.intro; · first | exact rfl)
     | fail
    all_goals (conv => whnf)
    all_goals rfl
theorem Sum_ok (b : RL) (hl : b.length ≤ 1000000) (h6 : ∀ r ∈ b, in64 r.1 ∧ in64 r.2) : PTriple Tryd.prog gv 75 [bagV b] (pairV (if goodB b then fit (wsum b) else (0, false))) := by
  have pP := pure_R b
  have c1 := goodB_ok b hl
  cases hg : goodB b with
  | true =>
    rw [hg] at c1
    have c2 := part_ok b hl h6
    have hw := wsum_128 hg (fun r hr => (h6 r hr).1) b.length
    rw [List.take_length] at hw
    have c3 := ok100 (wsum b) (by unfold in128; omega)
    refine PTriple.of_body (C := cx) Tryd.func75 rfl (by kernel_rfl) mixed fun E hE => ?_
    repeat' (conv => whnf); first
     | (refine bcase_of (fun hr => ?_) (fun hr => ?_) <;> (try simp only [decide_eq_true_eq, decide_eq_false_iff_not, beq_iff_eq, beq_eq_false_iff_ne, ne_eq, bne_iff_ne, Bool.not_eq_true, ge_iff_le, gt_iff_lt] at hr) <;> try (exfalso; first | omega | exact hr rfl | (simp at hr; done) | (simp at hr; omega)))
     | (apply And.intro; · first | exact Nat.le_of_ble_eq_true rfl | (show indep _ _ = true; kernel_rfl) | decide | exact ⟨by decide, by decide⟩ | exact ⟨Nat.le_of_ble_eq_true rfl, allOne_of rfl⟩ | exact allOne_of rfl | exact ⟨by omega, by omega⟩ | exact pP)
     | (apply Exists.intro; apply And.intro; · first | exact rfl | exact c1 | exact c2 | exact c3)
     | fail
    all_goals (conv => whnf)
    all_goals exact pair_of hr
  | false =>
    rw [hg] at c1
    refine PTriple.of_body (C := cx) Tryd.func75 rfl (by kernel_rfl) mixed fun E hE => ?_
    repeat' (conv => whnf); first
     | (refine bcase_of (fun hr => ?_) (fun hr => ?_) <;> (try simp only [decide_eq_true_eq, decide_eq_false_iff_not, beq_iff_eq, beq_eq_false_iff_ne, ne_eq, bne_iff_ne, Bool.not_eq_true, ge_iff_le, gt_iff_lt] at hr) <;> try (exfalso; first | omega | exact hr rfl | (simp at hr; done) | (simp at hr; omega)))
     | (apply And.intro; · first | exact Nat.le_of_ble_eq_true rfl | (show indep _ _ = true; kernel_rfl) | decide | exact ⟨by decide, by decide⟩ | exact ⟨Nat.le_of_ble_eq_true rfl, allOne_of rfl⟩ | exact allOne_of rfl | exact ⟨by omega, by omega⟩ | exact pP)
     | (apply Exists.intro; apply And.intro; · first | exact rfl | exact c1)
     | fail
    all_goals (conv => whnf)
    all_goals rfl
end Go.Proofs.YtbppemcdphgknaaDoor
/- Chapter 13: the reference's sum. -/
namespace Go.Proofs.YtbppemcdphgknaaDoor
open Go Go.Vm
set_option maxRecDepth 100000
set_option maxHeartbeats 40000000
set_option linter.unusedSimpArgs false
set_option linter.unusedVariables false
def magC (n : Int) : List V := [.bool (decide (n < 0)), .int .u64 ((n.natAbs : Int) / 18446744073709551616), .int .u64 ((n.natAbs : Int) % 18446744073709551616)]
def stW8 (b : RL) (i : Nat) : St DV := mkSt 25 [(0, bagV b), (2, .ref (3, 1) 0), (3, .ref (4, 1) 0), (4, i64V i)] [(2, .box [.bool false, .int .u64 0, .int .u64 0]), (3, .box (magC (wsum (b.take i))))] []
theorem mul_abs {v n : Int} (h1 : in64 v) (h2 : 1 ≤ n ∧ n ≤ 1099511627776) : ((v * n).natAbs : Int) < 170141183460469231731687303715884105728 := by
  have m1 : v * n ≤ 9223372036854775808 * n := Int.mul_le_mul_of_nonneg_right (by unfold in64 at h1; omega) (by omega)
  have m2 : -9223372036854775808 * n ≤ v * n := Int.mul_le_mul_of_nonneg_right (by unfold in64 at h1; omega) (by omega)
  omega
theorem Wide8_ok (b : RL) (hl : b.length ≤ 1000000) (h6 : ∀ r ∈ b, in64 r.1 ∧ in64 r.2) (hg : goodB b = true) : PTriple Tryd.prog gv 60 [bagV b] (smag (wsum b)) := by
  have pP := pure_R b
  have lP := lenR b
  obtain ⟨g1, g2⟩ := good_sum hg
  refine PTriple.of_body (C := cx) Tryd.func60 rfl (by kernel_rfl) mixed fun E hE => ?_
  repeat' (conv => whnf); first
   | (refine bcase_of (fun hr => ?_) (fun hr => ?_) <;> (try simp only [decide_eq_true_eq, decide_eq_false_iff_not, beq_iff_eq, beq_eq_false_iff_ne, ne_eq, bne_iff_ne, Bool.not_eq_true, ge_iff_le, gt_iff_lt] at hr) <;> try (exfalso; first | omega | exact hr rfl | (simp at hr; done) | (simp at hr; omega)))
   | (apply And.intro; · first | exact Nat.le_of_ble_eq_true rfl | (show indep _ _ = true; kernel_rfl) | decide | exact ⟨by decide, by decide⟩ | exact ⟨Nat.le_of_ble_eq_true rfl, allOne_of rfl⟩ | exact allOne_of rfl | exact ⟨by omega, by omega⟩)
   | (apply Exists.intro; apply And.intro; · first | exact rfl)
   | fail
  all_goals (conv => whnf)
  refine VLoop.norm [0, 2, 3, 4] [2, 3] ?_
  repeat' (conv => whnf); first
   | (apply And.intro; · first | exact Nat.le_of_ble_eq_true rfl | (show indep _ _ = true; kernel_rfl) | decide | exact pP)
   | (apply Exists.intro; apply And.intro; · first | exact rfl)
   | fail
  refine VLoop.inv (fun i : Nat => stW8 b i) (fun i => i ≤ b.length) (fun i => b.length - i) 0 (Nat.zero_le _) (by unfold stW8; rw [List.take_zero]; rfl) ?_
  intro i hi ih
  refine VLoop.unroll hE mixed ?_
  by_cases hgo : i < b.length
  case pos =>
    have hw : IntKind.i64.wrap ((i : Int) + 1) = ((i + 1 : Nat) : Int) := wrap64 (by omega) (by omega)
    obtain ⟨⟨v, n⟩, hx⟩ : ∃ x, b[i]? = some x := ⟨_, List.getElem?_eq_getElem hgo⟩
    have gi := getRp hx
    have hxm := List.mem_of_getElem? hx
    obtain ⟨k1, k2⟩ := h6 _ hxm
    have hw8 := wsum_128 hg (fun r hr => (h6 r hr).1) i
    have hma := mul_abs k1 (g1 _ hxm)
    simp only at k1 k2 hma
    have c1 := ok82 v n k1 k2
    have c2 := fun s t hs ht => ok81 (wsum (b.take i)) (v * n) s t hs ht (by omega) hma
    have hs : wsum (b.take (i + 1)) = wsum (b.take i) + v * n := by rw [take_get hx, wsum_snoc]
    rw [← hs] at c2
    repeat' (conv => whnf); first
     | (refine bcase_of (fun hr => ?_) (fun hr => ?_) <;> (try simp only [decide_eq_true_eq, decide_eq_false_iff_not, beq_iff_eq, beq_eq_false_iff_ne, ne_eq, bne_iff_ne, Bool.not_eq_true, ge_iff_le, gt_iff_lt] at hr) <;> try (exfalso; first | omega | exact hr rfl | (simp at hr; done) | (simp at hr; omega)))
     | (apply And.intro; · first | exact Nat.le_of_ble_eq_true rfl | (show indep _ _ = true; kernel_rfl) | decide | exact ⟨by decide, by decide⟩ | exact ⟨Nat.le_of_ble_eq_true rfl, allOne_of rfl⟩ | exact allOne_of rfl | exact ⟨by omega, by omega⟩ | exact pP | exact ⟨by omega, by rw [lP]; omega⟩)
     | (apply Exists.intro; apply And.intro; · first | exact rfl | exact c1 | exact c2 _ _ rfl rfl | exact gi)
     | rw [hw]
     | fail
    all_goals (conv => whnf)
    refine VLoop.norm [0, 2, 3, 4] [2, 3] ?_
    repeat' (conv => whnf); first
     | (apply And.intro; · first | exact Nat.le_of_ble_eq_true rfl | (show indep _ _ = true; kernel_rfl) | decide | exact pP)
     | (apply Exists.intro; apply And.intro; · first | exact rfl)
     | fail
    try rw [hw]
    exact ih (i + 1) hgo (by omega)
  case neg =>
    have he : wsum b = wsum (b.take i) := by rw [List.take_of_length_le (by omega)]
    rw [he]
    repeat' (conv => whnf); first
     | (refine bcase_of (fun hr => ?_) (fun hr => ?_) <;> (try simp only [decide_eq_true_eq, decide_eq_false_iff_not, beq_iff_eq, beq_eq_false_iff_ne, ne_eq, bne_iff_ne, Bool.not_eq_true, ge_iff_le, gt_iff_lt] at hr) <;> try (exfalso; first | omega | exact hr rfl | (simp at hr; done) | (simp at hr; omega)))
     | (apply And.intro; · first | exact Nat.le_of_ble_eq_true rfl | (show indep _ _ = true; kernel_rfl) | decide | exact ⟨by decide, by decide⟩ | exact ⟨Nat.le_of_ble_eq_true rfl, allOne_of rfl⟩ | exact allOne_of rfl | exact ⟨by omega, by omega⟩)
     | (apply Exists.intro; apply And.intro; · first | exact rfl)
     | fail
    all_goals (conv => whnf)
    all_goals rfl
end Go.Proofs.YtbppemcdphgknaaDoor
/- Chapter 13: may a cell be. -/
namespace Go.Proofs.YtbppemcdphgknaaDoor
open Go Go.Vm
set_option maxRecDepth 100000
set_option maxHeartbeats 40000000
set_option linter.unusedSimpArgs false
set_option linter.unusedVariables false
def RIn (p : RL) : Prop := ∀ r ∈ p, in64 r.1 ∧ in64 r.2
def partOk (n a : Int) (p : RL) : Bool := goodB p && decide (wsum p = a) && decide (cntB p = n)
/-- May a cell be? -/
def goodC (m n a b : Int) (p q : RL) : Bool := decide (1 ≤ m) && decide (m ≤ 2) && decide (1 ≤ n) && decide (n ≤ 1099511627776) && partOk n a p && (if m = 1 then decide (b = 0) && decide (q = []) else partOk n b q)
theorem nil_len {q : RL} : q = [] ↔ q.length = 0 := by cases q <;> simp
theorem part_facts (n a : Int) (p : RL) (hl : p.length ≤ 100000) (h6 : RIn p) (ha : in64 a) : ∃ s o k, PTriple Tryd.prog gv 75 [bagV p] (.tup [i64V s, .bool o]) ∧ PTriple Tryd.prog gv 101 [bagV p] (i64V k) ∧ (partOk n a p = true ↔ o = true ∧ s = a ∧ k = n) := by
  have c1 := Sum_ok p (by omega) h6
  have c2 := Count_ok p (by omega)
  cases hg : goodB p with
  | false =>
    rw [hg] at c1 c2
    exact ⟨0, false, 0, c1, c2, by simp [partOk, hg]⟩
  | true =>
    rw [hg] at c1 c2
    refine ⟨_, _, _, c1, c2, ?_⟩
    simp only [partOk, hg, Bool.true_and, Bool.and_eq_true, decide_eq_true_eq]
    show _ ↔ (fit (wsum p)).2 = true ∧ (fit (wsum p)).1 = a ∧ cntB p = n
    have : (fit (wsum p)).2 = true ∧ (fit (wsum p)).1 = a ↔ wsum p = a := by
      unfold fit
      split
      · simp
      · rename_i h; unfold in64 at ha; simp; intro e; subst e; exact h ha
    rw [← this, and_assoc]
theorem meas_ok (m : Int) : PTriple Tryd.prog gv 73 [i64V m] (.bool (decide (1 ≤ m) && decide (m ≤ 2))) := by
  by_cases h1 : 1 ≤ m
  · by_cases h2 : m ≤ 2
    · rw [decide_eq_true h1, decide_eq_true h2]
      refine PTriple.of_body (C := cx) Tryd.func73 rfl (by kernel_rfl) mixed fun E hE => ?_
      repeat' (conv => whnf); first
       | (refine bcase_of (fun hr => ?_) (fun hr => ?_) <;> (try simp only [decide_eq_true_eq, decide_eq_false_iff_not, beq_iff_eq, beq_eq_false_iff_ne, ne_eq, bne_iff_ne, bne_eq_false_iff_eq, Bool.not_eq_true, ge_iff_le, gt_iff_lt] at hr) <;> try (exfalso; first | omega | exact hr rfl | (simp at hr; done) | (simp at hr; omega)))
       | (apply And.intro; · first | exact Nat.le_of_ble_eq_true rfl | (show indep _ _ = true; kernel_rfl) | decide | exact ⟨by decide, by decide⟩ | exact ⟨Nat.le_of_ble_eq_true rfl, allOne_of rfl⟩ | exact allOne_of rfl | exact ⟨by omega, by omega⟩)
       | (apply Exists.intro; apply And.intro; · first | exact rfl)
       | fail
      all_goals (conv => whnf)
      all_goals rfl
    · rw [decide_eq_true h1, decide_eq_false h2]
      refine PTriple.of_body (C := cx) Tryd.func73 rfl (by kernel_rfl) mixed fun E hE => ?_
      repeat' (conv => whnf); first
       | (refine bcase_of (fun hr => ?_) (fun hr => ?_) <;> (try simp only [decide_eq_true_eq, decide_eq_false_iff_not, beq_iff_eq, beq_eq_false_iff_ne, ne_eq, bne_iff_ne, bne_eq_false_iff_eq, Bool.not_eq_true, ge_iff_le, gt_iff_lt] at hr) <;> try (exfalso; first | omega | exact hr rfl | (simp at hr; done) | (simp at hr; omega)))
       | (apply And.intro; · first | exact Nat.le_of_ble_eq_true rfl | (show indep _ _ = true; kernel_rfl) | decide | exact ⟨by decide, by decide⟩ | exact ⟨Nat.le_of_ble_eq_true rfl, allOne_of rfl⟩ | exact allOne_of rfl | exact ⟨by omega, by omega⟩)
       | (apply Exists.intro; apply And.intro; · first | exact rfl)
       | fail
      all_goals (conv => whnf)
      all_goals rfl
  · rw [decide_eq_false h1, Bool.false_and]
    refine PTriple.of_body (C := cx) Tryd.func73 rfl (by kernel_rfl) mixed fun E hE => ?_
    repeat' (conv => whnf); first
     | (refine bcase_of (fun hr => ?_) (fun hr => ?_) <;> (try simp only [decide_eq_true_eq, decide_eq_false_iff_not, beq_iff_eq, beq_eq_false_iff_ne, ne_eq, bne_iff_ne, bne_eq_false_iff_eq, Bool.not_eq_true, ge_iff_le, gt_iff_lt] at hr) <;> try (exfalso; first | omega | exact hr rfl | (simp at hr; done) | (simp at hr; omega)))
     | (apply And.intro; · first | exact Nat.le_of_ble_eq_true rfl | (show indep _ _ = true; kernel_rfl) | decide | exact ⟨by decide, by decide⟩ | exact ⟨Nat.le_of_ble_eq_true rfl, allOne_of rfl⟩ | exact allOne_of rfl | exact ⟨by omega, by omega⟩)
     | (apply Exists.intro; apply And.intro; · first | exact rfl)
     | fail
    all_goals (conv => whnf)
    all_goals rfl
theorem cellGood_ok (m n a b : Int) (p q : RL) (hp : p.length ≤ 100000) (hq : q.length ≤ 100000) (h6p : RIn p) (h6q : RIn q) (ha : in64 a) (hb : in64 b) : PTriple Tryd.prog gv 77 [i64V m, cellV n a b p q] (.bool (goodC m n a b p q)) := by
  have pP := pure_R p
  have pQ := pure_R q
  have lP := lenR p
  have lQ := lenR q
  have hn0 := @nil_len q
  have cM := meas_ok m
  obtain ⟨s0, o0, k0, cS0, cK0, h0⟩ := part_facts n a p hp h6p ha
  obtain ⟨s1, o1, k1, cS1, cK1, h1⟩ := part_facts n b q hq h6q hb
  generalize hH : goodC m n a b p q = H
  simp only [goodC] at hH
  by_cases hm : 1 ≤ m ∧ m ≤ 2
  case neg =>
    have e : (decide (1 ≤ m) && decide (m ≤ 2)) = false := by simp; omega
    rw [e] at hH cM
    obtain rfl : H = false := hH.symm
    refine PTriple.of_body (C := cx) Tryd.func77 rfl (by kernel_rfl) mixed fun E hE => ?_
    repeat' (conv => whnf); first
     | (refine bcase_of (fun hr => ?_) (fun hr => ?_) <;> (try simp only [smag_cells, decide_eq_true_eq, decide_eq_false_iff_not, beq_iff_eq, beq_eq_false_iff_ne, ne_eq, bne_iff_ne, bne_eq_false_iff_eq, Bool.not_eq_true, ge_iff_le, gt_iff_lt] at hr) <;> try (exfalso; first | omega | exact hr rfl | (simp at hr; done) | (simp at hr; omega)))
     | (apply And.intro; · first | exact Nat.le_of_ble_eq_true rfl | (show indep _ _ = true; kernel_rfl) | decide | exact ⟨by decide, by decide⟩ | exact ⟨Nat.le_of_ble_eq_true rfl, allOne_of rfl⟩ | exact allOne_of rfl | exact ⟨by omega, by omega⟩ | exact pP | exact pQ)
     | (apply Exists.intro; apply And.intro; · first | exact rfl | exact cM)
     | fail
    all_goals (conv => whnf)
    all_goals rfl
  case pos =>
  rw [decide_eq_true hm.1, decide_eq_true hm.2] at hH cM
  by_cases hn : 1 ≤ n ∧ n ≤ 1099511627776
  case neg =>
    have e : (true && true && decide (1 ≤ n) && decide (n ≤ 1099511627776)) = false := by simp; omega
    rw [e] at hH
    obtain rfl : H = false := hH.symm
    refine PTriple.of_body (C := cx) Tryd.func77 rfl (by kernel_rfl) mixed fun E hE => ?_
    repeat' (conv => whnf); first
     | (refine bcase_of (fun hr => ?_) (fun hr => ?_) <;> (try simp only [smag_cells, decide_eq_true_eq, decide_eq_false_iff_not, beq_iff_eq, beq_eq_false_iff_ne, ne_eq, bne_iff_ne, bne_eq_false_iff_eq, Bool.not_eq_true, ge_iff_le, gt_iff_lt] at hr) <;> try (exfalso; first | omega | exact hr rfl | (simp at hr; done) | (simp at hr; omega)))
     | (apply And.intro; · first | exact Nat.le_of_ble_eq_true rfl | (show indep _ _ = true; kernel_rfl) | decide | exact ⟨by decide, by decide⟩ | exact ⟨Nat.le_of_ble_eq_true rfl, allOne_of rfl⟩ | exact allOne_of rfl | exact ⟨by omega, by omega⟩ | exact pP | exact pQ)
     | (apply Exists.intro; apply And.intro; · first | exact rfl | exact cM)
     | fail
    all_goals (conv => whnf)
    all_goals rfl
  case pos =>
  rw [decide_eq_true hn.1, decide_eq_true hn.2] at hH
  simp only [Bool.true_and] at hH cM
  have hm12 : m = 1 ∨ m = 2 := by omega
  rcases hm12 with rfl | rfl
  · rw [if_pos rfl] at hH
    cases hp0 : partOk n a p with
    | false =>
      rw [hp0] at hH h0
      obtain rfl : H = false := hH.symm
      have h0' : ¬ (o0 = true ∧ s0 = a ∧ k0 = n) := fun h => by have := h0.2 h; cases this
      cases o0 with
      | false =>
        refine PTriple.of_body (C := cx) Tryd.func77 rfl (by kernel_rfl) mixed fun E hE => ?_
        repeat' (conv => whnf); first
         | (refine bcase_of (fun hr => ?_) (fun hr => ?_) <;> (try simp only [smag_cells, decide_eq_true_eq, decide_eq_false_iff_not, beq_iff_eq, beq_eq_false_iff_ne, ne_eq, bne_iff_ne, bne_eq_false_iff_eq, Bool.not_eq_true, ge_iff_le, gt_iff_lt] at hr) <;> try (exfalso; first | omega | exact hr rfl | (simp at hr; done) | (simp at hr; omega)))
         | (apply And.intro; · first | exact Nat.le_of_ble_eq_true rfl | (show indep _ _ = true; kernel_rfl) | decide | exact ⟨by decide, by decide⟩ | exact ⟨Nat.le_of_ble_eq_true rfl, allOne_of rfl⟩ | exact allOne_of rfl | exact ⟨by omega, by omega⟩ | exact pP | exact pQ)
         | (apply Exists.intro; apply And.intro; · first | exact rfl | exact cM | exact cS0 | exact cS1 | exact cK0 | exact cK1)
         | fail
        all_goals (conv => whnf)
        all_goals refine VLoop.unroll hE mixed ?_
        repeat' (conv => whnf); first
         | (refine bcase_of (fun hr => ?_) (fun hr => ?_) <;> (try simp only [smag_cells, decide_eq_true_eq, decide_eq_false_iff_not, beq_iff_eq, beq_eq_false_iff_ne, ne_eq, bne_iff_ne, bne_eq_false_iff_eq, Bool.not_eq_true, ge_iff_le, gt_iff_lt] at hr) <;> try (exfalso; first | omega | exact hr rfl | (simp at hr; done) | (simp at hr; omega)))
         | (apply And.intro; · first | exact Nat.le_of_ble_eq_true rfl | (show indep _ _ = true; kernel_rfl) | decide | exact ⟨by decide, by decide⟩ | exact ⟨Nat.le_of_ble_eq_true rfl, allOne_of rfl⟩ | exact allOne_of rfl | exact ⟨by omega, by omega⟩ | exact pP | exact pQ)
         | (apply Exists.intro; apply And.intro; · first | exact rfl | exact cM | exact cS0 | exact cS1 | exact cK0 | exact cK1)
         | fail
        all_goals (conv => whnf)
        all_goals first | rfl | (exfalso; omega)
      | true =>
        simp only [true_and] at h0'
        refine PTriple.of_body (C := cx) Tryd.func77 rfl (by kernel_rfl) mixed fun E hE => ?_
        repeat' (conv => whnf); first
         | (refine bcase_of (fun hr => ?_) (fun hr => ?_) <;> (try simp only [smag_cells, decide_eq_true_eq, decide_eq_false_iff_not, beq_iff_eq, beq_eq_false_iff_ne, ne_eq, bne_iff_ne, bne_eq_false_iff_eq, Bool.not_eq_true, ge_iff_le, gt_iff_lt] at hr) <;> try (exfalso; first | omega | exact hr rfl | (simp at hr; done) | (simp at hr; omega)))
         | (apply And.intro; · first | exact Nat.le_of_ble_eq_true rfl | (show indep _ _ = true; kernel_rfl) | decide | exact ⟨by decide, by decide⟩ | exact ⟨Nat.le_of_ble_eq_true rfl, allOne_of rfl⟩ | exact allOne_of rfl | exact ⟨by omega, by omega⟩ | exact pP | exact pQ)
         | (apply Exists.intro; apply And.intro; · first | exact rfl | exact cM | exact cS0 | exact cS1 | exact cK0 | exact cK1)
         | fail
        all_goals (conv => whnf)
        all_goals refine VLoop.unroll hE mixed ?_
        repeat' (conv => whnf); first
         | (refine bcase_of (fun hr => ?_) (fun hr => ?_) <;> (try simp only [smag_cells, decide_eq_true_eq, decide_eq_false_iff_not, beq_iff_eq, beq_eq_false_iff_ne, ne_eq, bne_iff_ne, bne_eq_false_iff_eq, Bool.not_eq_true, ge_iff_le, gt_iff_lt] at hr) <;> try (exfalso; first | omega | exact hr rfl | (simp at hr; done) | (simp at hr; omega)))
         | (apply And.intro; · first | exact Nat.le_of_ble_eq_true rfl | (show indep _ _ = true; kernel_rfl) | decide | exact ⟨by decide, by decide⟩ | exact ⟨Nat.le_of_ble_eq_true rfl, allOne_of rfl⟩ | exact allOne_of rfl | exact ⟨by omega, by omega⟩ | exact pP | exact pQ)
         | (apply Exists.intro; apply And.intro; · first | exact rfl | exact cM | exact cS0 | exact cS1 | exact cK0 | exact cK1)
         | fail
        all_goals (conv => whnf)
        all_goals first | rfl | (exfalso; omega)
    | true =>
      rw [hp0] at hH h0
      obtain ⟨rfl, rfl, rfl⟩ := h0.1 rfl
      simp only [Bool.true_and] at hH
      by_cases hz : b = 0 ∧ q.length = 0
      · rw [decide_eq_true hz.1, decide_eq_true (hn0.2 hz.2)] at hH
        obtain rfl : H = true := hH.symm
        refine PTriple.of_body (C := cx) Tryd.func77 rfl (by kernel_rfl) mixed fun E hE => ?_
        repeat' (conv => whnf); first
         | (refine bcase_of (fun hr => ?_) (fun hr => ?_) <;> (try simp only [smag_cells, decide_eq_true_eq, decide_eq_false_iff_not, beq_iff_eq, beq_eq_false_iff_ne, ne_eq, bne_iff_ne, bne_eq_false_iff_eq, Bool.not_eq_true, ge_iff_le, gt_iff_lt] at hr) <;> try (exfalso; first | omega | exact hr rfl | (simp at hr; done) | (simp at hr; omega)))
         | (apply And.intro; · first | exact Nat.le_of_ble_eq_true rfl | (show indep _ _ = true; kernel_rfl) | decide | exact ⟨by decide, by decide⟩ | exact ⟨Nat.le_of_ble_eq_true rfl, allOne_of rfl⟩ | exact allOne_of rfl | exact ⟨by omega, by omega⟩ | exact pP | exact pQ)
         | (apply Exists.intro; apply And.intro; · first | exact rfl | exact cM | exact cS0 | exact cS1 | exact cK0 | exact cK1)
         | fail
        all_goals (conv => whnf)
        all_goals refine VLoop.unroll hE mixed ?_
        repeat' (conv => whnf); first
         | (refine bcase_of (fun hr => ?_) (fun hr => ?_) <;> (try simp only [smag_cells, decide_eq_true_eq, decide_eq_false_iff_not, beq_iff_eq, beq_eq_false_iff_ne, ne_eq, bne_iff_ne, bne_eq_false_iff_eq, Bool.not_eq_true, ge_iff_le, gt_iff_lt] at hr) <;> try (exfalso; first | omega | exact hr rfl | (simp at hr; done) | (simp at hr; omega)))
         | (apply And.intro; · first | exact Nat.le_of_ble_eq_true rfl | (show indep _ _ = true; kernel_rfl) | decide | exact ⟨by decide, by decide⟩ | exact ⟨Nat.le_of_ble_eq_true rfl, allOne_of rfl⟩ | exact allOne_of rfl | exact ⟨by omega, by omega⟩ | exact pP | exact pQ)
         | (apply Exists.intro; apply And.intro; · first | exact rfl | exact cM | exact cS0 | exact cS1 | exact cK0 | exact cK1)
         | fail
        all_goals (conv => whnf)
        all_goals refine VLoop.unroll hE mixed ?_
        repeat' (conv => whnf); first
         | (refine bcase_of (fun hr => ?_) (fun hr => ?_) <;> (try simp only [smag_cells, decide_eq_true_eq, decide_eq_false_iff_not, beq_iff_eq, beq_eq_false_iff_ne, ne_eq, bne_iff_ne, bne_eq_false_iff_eq, Bool.not_eq_true, ge_iff_le, gt_iff_lt] at hr) <;> try (exfalso; first | omega | exact hr rfl | (simp at hr; done) | (simp at hr; omega)))
         | (apply And.intro; · first | exact Nat.le_of_ble_eq_true rfl | (show indep _ _ = true; kernel_rfl) | decide | exact ⟨by decide, by decide⟩ | exact ⟨Nat.le_of_ble_eq_true rfl, allOne_of rfl⟩ | exact allOne_of rfl | exact ⟨by omega, by omega⟩ | exact pP | exact pQ)
         | (apply Exists.intro; apply And.intro; · first | exact rfl | exact cM | exact cS0 | exact cS1 | exact cK0 | exact cK1)
         | fail
        all_goals (conv => whnf)
        all_goals refine VLoop.unroll hE mixed ?_
        repeat' (conv => whnf); first
         | (refine bcase_of (fun hr => ?_) (fun hr => ?_) <;> (try simp only [smag_cells, decide_eq_true_eq, decide_eq_false_iff_not, beq_iff_eq, beq_eq_false_iff_ne, ne_eq, bne_iff_ne, bne_eq_false_iff_eq, Bool.not_eq_true, ge_iff_le, gt_iff_lt] at hr) <;> try (exfalso; first | omega | exact hr rfl | (simp at hr; done) | (simp at hr; omega)))
         | (apply And.intro; · first | exact Nat.le_of_ble_eq_true rfl | (show indep _ _ = true; kernel_rfl) | decide | exact ⟨by decide, by decide⟩ | exact ⟨Nat.le_of_ble_eq_true rfl, allOne_of rfl⟩ | exact allOne_of rfl | exact ⟨by omega, by omega⟩ | exact pP | exact pQ)
         | (apply Exists.intro; apply And.intro; · first | exact rfl | exact cM | exact cS0 | exact cS1 | exact cK0 | exact cK1)
         | fail
        all_goals (conv => whnf)
        all_goals first | rfl | (exfalso; omega)
      · have e : (decide (b = 0) && decide (q = [])) = false := by
          simp only [Bool.and_eq_false_iff, decide_eq_false_iff_not, hn0]; omega
        rw [e] at hH
        obtain rfl : H = false := hH.symm
        refine PTriple.of_body (C := cx) Tryd.func77 rfl (by kernel_rfl) mixed fun E hE => ?_
        repeat' (conv => whnf); first
         | (refine bcase_of (fun hr => ?_) (fun hr => ?_) <;> (try simp only [smag_cells, decide_eq_true_eq, decide_eq_false_iff_not, beq_iff_eq, beq_eq_false_iff_ne, ne_eq, bne_iff_ne, bne_eq_false_iff_eq, Bool.not_eq_true, ge_iff_le, gt_iff_lt] at hr) <;> try (exfalso; first | omega | exact hr rfl | (simp at hr; done) | (simp at hr; omega)))
         | (apply And.intro; · first | exact Nat.le_of_ble_eq_true rfl | (show indep _ _ = true; kernel_rfl) | decide | exact ⟨by decide, by decide⟩ | exact ⟨Nat.le_of_ble_eq_true rfl, allOne_of rfl⟩ | exact allOne_of rfl | exact ⟨by omega, by omega⟩ | exact pP | exact pQ)
         | (apply Exists.intro; apply And.intro; · first | exact rfl | exact cM | exact cS0 | exact cS1 | exact cK0 | exact cK1)
         | fail
        all_goals (conv => whnf)
        all_goals refine VLoop.unroll hE mixed ?_
        repeat' (conv => whnf); first
         | (refine bcase_of (fun hr => ?_) (fun hr => ?_) <;> (try simp only [smag_cells, decide_eq_true_eq, decide_eq_false_iff_not, beq_iff_eq, beq_eq_false_iff_ne, ne_eq, bne_iff_ne, bne_eq_false_iff_eq, Bool.not_eq_true, ge_iff_le, gt_iff_lt] at hr) <;> try (exfalso; first | omega | exact hr rfl | (simp at hr; done) | (simp at hr; omega)))
         | (apply And.intro; · first | exact Nat.le_of_ble_eq_true rfl | (show indep _ _ = true; kernel_rfl) | decide | exact ⟨by decide, by decide⟩ | exact ⟨Nat.le_of_ble_eq_true rfl, allOne_of rfl⟩ | exact allOne_of rfl | exact ⟨by omega, by omega⟩ | exact pP | exact pQ)
         | (apply Exists.intro; apply And.intro; · first | exact rfl | exact cM | exact cS0 | exact cS1 | exact cK0 | exact cK1)
         | fail
        all_goals (conv => whnf)
        all_goals refine VLoop.unroll hE mixed ?_
        repeat' (conv => whnf); first
         | (refine bcase_of (fun hr => ?_) (fun hr => ?_) <;> (try simp only [smag_cells, decide_eq_true_eq, decide_eq_false_iff_not, beq_iff_eq, beq_eq_false_iff_ne, ne_eq, bne_iff_ne, bne_eq_false_iff_eq, Bool.not_eq_true, ge_iff_le, gt_iff_lt] at hr) <;> try (exfalso; first | omega | exact hr rfl | (simp at hr; done) | (simp at hr; omega)))
         | (apply And.intro; · first | exact Nat.le_of_ble_eq_true rfl | (show indep _ _ = true; kernel_rfl) | decide | exact ⟨by decide, by decide⟩ | exact ⟨Nat.le_of_ble_eq_true rfl, allOne_of rfl⟩ | exact allOne_of rfl | exact ⟨by omega, by omega⟩ | exact pP | exact pQ)
         | (apply Exists.intro; apply And.intro; · first | exact rfl | exact cM | exact cS0 | exact cS1 | exact cK0 | exact cK1)
         | fail
        all_goals (conv => whnf)
        all_goals first | rfl | (exfalso; omega)
  · rw [if_neg (by decide)] at hH
    cases hp0 : partOk n a p with
    | false =>
      rw [hp0] at hH h0
      obtain rfl : H = false := hH.symm
      have h0' : ¬ (o0 = true ∧ s0 = a ∧ k0 = n) := fun h => by have := h0.2 h; cases this
      cases o0 with
      | false =>
        refine PTriple.of_body (C := cx) Tryd.func77 rfl (by kernel_rfl) mixed fun E hE => ?_
        repeat' (conv => whnf); first
         | (refine bcase_of (fun hr => ?_) (fun hr => ?_) <;> (try simp only [smag_cells, decide_eq_true_eq, decide_eq_false_iff_not, beq_iff_eq, beq_eq_false_iff_ne, ne_eq, bne_iff_ne, bne_eq_false_iff_eq, Bool.not_eq_true, ge_iff_le, gt_iff_lt] at hr) <;> try (exfalso; first | omega | exact hr rfl | (simp at hr; done) | (simp at hr; omega)))
         | (apply And.intro; · first | exact Nat.le_of_ble_eq_true rfl | (show indep _ _ = true; kernel_rfl) | decide | exact ⟨by decide, by decide⟩ | exact ⟨Nat.le_of_ble_eq_true rfl, allOne_of rfl⟩ | exact allOne_of rfl | exact ⟨by omega, by omega⟩ | exact pP | exact pQ)
         | (apply Exists.intro; apply And.intro; · first | exact rfl | exact cM | exact cS0 | exact cS1 | exact cK0 | exact cK1)
         | fail
        all_goals (conv => whnf)
        all_goals refine VLoop.unroll hE mixed ?_
        repeat' (conv => whnf); first
         | (refine bcase_of (fun hr => ?_) (fun hr => ?_) <;> (try simp only [smag_cells, decide_eq_true_eq, decide_eq_false_iff_not, beq_iff_eq, beq_eq_false_iff_ne, ne_eq, bne_iff_ne, bne_eq_false_iff_eq, Bool.not_eq_true, ge_iff_le, gt_iff_lt] at hr) <;> try (exfalso; first | omega | exact hr rfl | (simp at hr; done) | (simp at hr; omega)))
         | (apply And.intro; · first | exact Nat.le_of_ble_eq_true rfl | (show indep _ _ = true; kernel_rfl) | decide | exact ⟨by decide, by decide⟩ | exact ⟨Nat.le_of_ble_eq_true rfl, allOne_of rfl⟩ | exact allOne_of rfl | exact ⟨by omega, by omega⟩ | exact pP | exact pQ)
         | (apply Exists.intro; apply And.intro; · first | exact rfl | exact cM | exact cS0 | exact cS1 | exact cK0 | exact cK1)
         | fail
        all_goals (conv => whnf)
        all_goals first | rfl | (exfalso; omega)
      | true =>
        simp only [true_and] at h0'
        refine PTriple.of_body (C := cx) Tryd.func77 rfl (by kernel_rfl) mixed fun E hE => ?_
        repeat' (conv => whnf); first
         | (refine bcase_of (fun hr => ?_) (fun hr => ?_) <;> (try simp only [smag_cells, decide_eq_true_eq, decide_eq_false_iff_not, beq_iff_eq, beq_eq_false_iff_ne, ne_eq, bne_iff_ne, bne_eq_false_iff_eq, Bool.not_eq_true, ge_iff_le, gt_iff_lt] at hr) <;> try (exfalso; first | omega | exact hr rfl | (simp at hr; done) | (simp at hr; omega)))
         | (apply And.intro; · first | exact Nat.le_of_ble_eq_true rfl | (show indep _ _ = true; kernel_rfl) | decide | exact ⟨by decide, by decide⟩ | exact ⟨Nat.le_of_ble_eq_true rfl, allOne_of rfl⟩ | exact allOne_of rfl | exact ⟨by omega, by omega⟩ | exact pP | exact pQ)
         | (apply Exists.intro; apply And.intro; · first | exact rfl | exact cM | exact cS0 | exact cS1 | exact cK0 | exact cK1)
         | fail
        all_goals (conv => whnf)
        all_goals refine VLoop.unroll hE mixed ?_
        repeat' (conv => whnf); first
         | (refine bcase_of (fun hr => ?_) (fun hr => ?_) <;> (try simp only [smag_cells, decide_eq_true_eq, decide_eq_false_iff_not, beq_iff_eq, beq_eq_false_iff_ne, ne_eq, bne_iff_ne, bne_eq_false_iff_eq, Bool.not_eq_true, ge_iff_le, gt_iff_lt] at hr) <;> try (exfalso; first | omega | exact hr rfl | (simp at hr; done) | (simp at hr; omega)))
         | (apply And.intro; · first | exact Nat.le_of_ble_eq_true rfl | (show indep _ _ = true; kernel_rfl) | decide | exact ⟨by decide, by decide⟩ | exact ⟨Nat.le_of_ble_eq_true rfl, allOne_of rfl⟩ | exact allOne_of rfl | exact ⟨by omega, by omega⟩ | exact pP | exact pQ)
         | (apply Exists.intro; apply And.intro; · first | exact rfl | exact cM | exact cS0 | exact cS1 | exact cK0 | exact cK1)
         | fail
        all_goals (conv => whnf)
        all_goals first | rfl | (exfalso; omega)
    | true =>
      rw [hp0] at hH h0
      obtain ⟨rfl, rfl, rfl⟩ := h0.1 rfl
      simp only [Bool.true_and] at hH
      cases hp1 : partOk k0 b q with
      | true =>
        rw [hp1] at hH h1
        obtain ⟨rfl, rfl, rfl⟩ := h1.1 rfl
        obtain rfl : H = true := hH.symm
        refine PTriple.of_body (C := cx) Tryd.func77 rfl (by kernel_rfl) mixed fun E hE => ?_
        repeat' (conv => whnf); first
         | (refine bcase_of (fun hr => ?_) (fun hr => ?_) <;> (try simp only [smag_cells, decide_eq_true_eq, decide_eq_false_iff_not, beq_iff_eq, beq_eq_false_iff_ne, ne_eq, bne_iff_ne, bne_eq_false_iff_eq, Bool.not_eq_true, ge_iff_le, gt_iff_lt] at hr) <;> try (exfalso; first | omega | exact hr rfl | (simp at hr; done) | (simp at hr; omega)))
         | (apply And.intro; · first | exact Nat.le_of_ble_eq_true rfl | (show indep _ _ = true; kernel_rfl) | decide | exact ⟨by decide, by decide⟩ | exact ⟨Nat.le_of_ble_eq_true rfl, allOne_of rfl⟩ | exact allOne_of rfl | exact ⟨by omega, by omega⟩ | exact pP | exact pQ)
         | (apply Exists.intro; apply And.intro; · first | exact rfl | exact cM | exact cS0 | exact cS1 | exact cK0 | exact cK1)
         | fail
        all_goals (conv => whnf)
        all_goals refine VLoop.unroll hE mixed ?_
        repeat' (conv => whnf); first
         | (refine bcase_of (fun hr => ?_) (fun hr => ?_) <;> (try simp only [smag_cells, decide_eq_true_eq, decide_eq_false_iff_not, beq_iff_eq, beq_eq_false_iff_ne, ne_eq, bne_iff_ne, bne_eq_false_iff_eq, Bool.not_eq_true, ge_iff_le, gt_iff_lt] at hr) <;> try (exfalso; first | omega | exact hr rfl | (simp at hr; done) | (simp at hr; omega)))
         | (apply And.intro; · first | exact Nat.le_of_ble_eq_true rfl | (show indep _ _ = true; kernel_rfl) | decide | exact ⟨by decide, by decide⟩ | exact ⟨Nat.le_of_ble_eq_true rfl, allOne_of rfl⟩ | exact allOne_of rfl | exact ⟨by omega, by omega⟩ | exact pP | exact pQ)
         | (apply Exists.intro; apply And.intro; · first | exact rfl | exact cM | exact cS0 | exact cS1 | exact cK0 | exact cK1)
         | fail
        all_goals (conv => whnf)
        all_goals refine VLoop.unroll hE mixed ?_
        repeat' (conv => whnf); first
         | (refine bcase_of (fun hr => ?_) (fun hr => ?_) <;> (try simp only [smag_cells, decide_eq_true_eq, decide_eq_false_iff_not, beq_iff_eq, beq_eq_false_iff_ne, ne_eq, bne_iff_ne, bne_eq_false_iff_eq, Bool.not_eq_true, ge_iff_le, gt_iff_lt] at hr) <;> try (exfalso; first | omega | exact hr rfl | (simp at hr; done) | (simp at hr; omega)))
         | (apply And.intro; · first | exact Nat.le_of_ble_eq_true rfl | (show indep _ _ = true; kernel_rfl) | decide | exact ⟨by decide, by decide⟩ | exact ⟨Nat.le_of_ble_eq_true rfl, allOne_of rfl⟩ | exact allOne_of rfl | exact ⟨by omega, by omega⟩ | exact pP | exact pQ)
         | (apply Exists.intro; apply And.intro; · first | exact rfl | exact cM | exact cS0 | exact cS1 | exact cK0 | exact cK1)
         | fail
        all_goals (conv => whnf)
        all_goals refine VLoop.unroll hE mixed ?_
        repeat' (conv => whnf); first
         | (refine bcase_of (fun hr => ?_) (fun hr => ?_) <;> (try simp only [smag_cells, decide_eq_true_eq, decide_eq_false_iff_not, beq_iff_eq, beq_eq_false_iff_ne, ne_eq, bne_iff_ne, bne_eq_false_iff_eq, Bool.not_eq_true, ge_iff_le, gt_iff_lt] at hr) <;> try (exfalso; first | omega | exact hr rfl | (simp at hr; done) | (simp at hr; omega)))
         | (apply And.intro; · first | exact Nat.le_of_ble_eq_true rfl | (show indep _ _ = true; kernel_rfl) | decide | exact ⟨by decide, by decide⟩ | exact ⟨Nat.le_of_ble_eq_true rfl, allOne_of rfl⟩ | exact allOne_of rfl | exact ⟨by omega, by omega⟩ | exact pP | exact pQ)
         | (apply Exists.intro; apply And.intro; · first | exact rfl | exact cM | exact cS0 | exact cS1 | exact cK0 | exact cK1)
         | fail
        all_goals (conv => whnf)
        all_goals first | rfl | (exfalso; omega)
      | false =>
        rw [hp1] at hH h1
        obtain rfl : H = false := hH.symm
        have h1' : ¬ (o1 = true ∧ s1 = b ∧ k1 = k0) := fun h => by have := h1.2 h; cases this
        cases o1 with
        | false =>
          refine PTriple.of_body (C := cx) Tryd.func77 rfl (by kernel_rfl) mixed fun E hE => ?_
          repeat' (conv => whnf); first
           | (refine bcase_of (fun hr => ?_) (fun hr => ?_) <;> (try simp only [smag_cells, decide_eq_true_eq, decide_eq_false_iff_not, beq_iff_eq, beq_eq_false_iff_ne, ne_eq, bne_iff_ne, bne_eq_false_iff_eq, Bool.not_eq_true, ge_iff_le, gt_iff_lt] at hr) <;> try (exfalso; first | omega | exact hr rfl | (simp at hr; done) | (simp at hr; omega)))
           | (apply And.intro; · first | exact Nat.le_of_ble_eq_true rfl | (show indep _ _ = true; kernel_rfl) | decide | exact ⟨by decide, by decide⟩ | exact ⟨Nat.le_of_ble_eq_true rfl, allOne_of rfl⟩ | exact allOne_of rfl | exact ⟨by omega, by omega⟩ | exact pP | exact pQ)
           | (apply Exists.intro; apply And.intro; · first | exact rfl | exact cM | exact cS0 | exact cS1 | exact cK0 | exact cK1)
           | fail
          all_goals (conv => whnf)
          all_goals refine VLoop.unroll hE mixed ?_
          repeat' (conv => whnf); first
           | (refine bcase_of (fun hr => ?_) (fun hr => ?_) <;> (try simp only [smag_cells, decide_eq_true_eq, decide_eq_false_iff_not, beq_iff_eq, beq_eq_false_iff_ne, ne_eq, bne_iff_ne, bne_eq_false_iff_eq, Bool.not_eq_true, ge_iff_le, gt_iff_lt] at hr) <;> try (exfalso; first | omega | exact hr rfl | (simp at hr; done) | (simp at hr; omega)))
           | (apply And.intro; · first | exact Nat.le_of_ble_eq_true rfl | (show indep _ _ = true; kernel_rfl) | decide | exact ⟨by decide, by decide⟩ | exact ⟨Nat.le_of_ble_eq_true rfl, allOne_of rfl⟩ | exact allOne_of rfl | exact ⟨by omega, by omega⟩ | exact pP | exact pQ)
           | (apply Exists.intro; apply And.intro; · first | exact rfl | exact cM | exact cS0 | exact cS1 | exact cK0 | exact cK1)
           | fail
          all_goals (conv => whnf)
          all_goals refine VLoop.unroll hE mixed ?_
          repeat' (conv => whnf); first
           | (refine bcase_of (fun hr => ?_) (fun hr => ?_) <;> (try simp only [smag_cells, decide_eq_true_eq, decide_eq_false_iff_not, beq_iff_eq, beq_eq_false_iff_ne, ne_eq, bne_iff_ne, bne_eq_false_iff_eq, Bool.not_eq_true, ge_iff_le, gt_iff_lt] at hr) <;> try (exfalso; first | omega | exact hr rfl | (simp at hr; done) | (simp at hr; omega)))
           | (apply And.intro; · first | exact Nat.le_of_ble_eq_true rfl | (show indep _ _ = true; kernel_rfl) | decide | exact ⟨by decide, by decide⟩ | exact ⟨Nat.le_of_ble_eq_true rfl, allOne_of rfl⟩ | exact allOne_of rfl | exact ⟨by omega, by omega⟩ | exact pP | exact pQ)
           | (apply Exists.intro; apply And.intro; · first | exact rfl | exact cM | exact cS0 | exact cS1 | exact cK0 | exact cK1)
           | fail
          all_goals (conv => whnf)
          all_goals first | rfl | (exfalso; omega)
        | true =>
          simp only [true_and] at h1'
          refine PTriple.of_body (C := cx) Tryd.func77 rfl (by kernel_rfl) mixed fun E hE => ?_
          repeat' (conv => whnf); first
           | (refine bcase_of (fun hr => ?_) (fun hr => ?_) <;> (try simp only [smag_cells, decide_eq_true_eq, decide_eq_false_iff_not, beq_iff_eq, beq_eq_false_iff_ne, ne_eq, bne_iff_ne, bne_eq_false_iff_eq, Bool.not_eq_true, ge_iff_le, gt_iff_lt] at hr) <;> try (exfalso; first | omega | exact hr rfl | (simp at hr; done) | (simp at hr; omega)))
           | (apply And.intro; · first | exact Nat.le_of_ble_eq_true rfl | (show indep _ _ = true; kernel_rfl) | decide | exact ⟨by decide, by decide⟩ | exact ⟨Nat.le_of_ble_eq_true rfl, allOne_of rfl⟩ | exact allOne_of rfl | exact ⟨by omega, by omega⟩ | exact pP | exact pQ)
           | (apply Exists.intro; apply And.intro; · first | exact rfl | exact cM | exact cS0 | exact cS1 | exact cK0 | exact cK1)
           | fail
          all_goals (conv => whnf)
          all_goals refine VLoop.unroll hE mixed ?_
          repeat' (conv => whnf); first
           | (refine bcase_of (fun hr => ?_) (fun hr => ?_) <;> (try simp only [smag_cells, decide_eq_true_eq, decide_eq_false_iff_not, beq_iff_eq, beq_eq_false_iff_ne, ne_eq, bne_iff_ne, bne_eq_false_iff_eq, Bool.not_eq_true, ge_iff_le, gt_iff_lt] at hr) <;> try (exfalso; first | omega | exact hr rfl | (simp at hr; done) | (simp at hr; omega)))
           | (apply And.intro; · first | exact Nat.le_of_ble_eq_true rfl | (show indep _ _ = true; kernel_rfl) | decide | exact ⟨by decide, by decide⟩ | exact ⟨Nat.le_of_ble_eq_true rfl, allOne_of rfl⟩ | exact allOne_of rfl | exact ⟨by omega, by omega⟩ | exact pP | exact pQ)
           | (apply Exists.intro; apply And.intro; · first | exact rfl | exact cM | exact cS0 | exact cS1 | exact cK0 | exact cK1)
           | fail
          all_goals (conv => whnf)
          all_goals refine VLoop.unroll hE mixed ?_
          repeat' (conv => whnf); first
           | (refine bcase_of (fun hr => ?_) (fun hr => ?_) <;> (try simp only [smag_cells, decide_eq_true_eq, decide_eq_false_iff_not, beq_iff_eq, beq_eq_false_iff_ne, ne_eq, bne_iff_ne, bne_eq_false_iff_eq, Bool.not_eq_true, ge_iff_le, gt_iff_lt] at hr) <;> try (exfalso; first | omega | exact hr rfl | (simp at hr; done) | (simp at hr; omega)))
           | (apply And.intro; · first | exact Nat.le_of_ble_eq_true rfl | (show indep _ _ = true; kernel_rfl) | decide | exact ⟨by decide, by decide⟩ | exact ⟨Nat.le_of_ble_eq_true rfl, allOne_of rfl⟩ | exact allOne_of rfl | exact ⟨by omega, by omega⟩ | exact pP | exact pQ)
           | (apply Exists.intro; apply And.intro; · first | exact rfl | exact cM | exact cS0 | exact cS1 | exact cK0 | exact cK1)
           | fail
          all_goals (conv => whnf)
          all_goals first | rfl | (exfalso; omega)
end Go.Proofs.YtbppemcdphgknaaDoor
/- Chapter 13: may a cell be, by the reference. -/
namespace Go.Proofs.YtbppemcdphgknaaDoor
open Go Go.Vm
set_option maxRecDepth 100000
set_option maxHeartbeats 40000000
set_option linter.unusedSimpArgs false
set_option linter.unusedVariables false
theorem part8_facts (n a : Int) (p : RL) (hl : p.length ≤ 100000) (h6 : RIn p) : (goodB p = false ∧ partOk n a p = false ∧ PTriple Tryd.prog gv 58 [bagV p] (.bool false)) ∨ ∃ w k, PTriple Tryd.prog gv 58 [bagV p] (.bool true) ∧ PTriple Tryd.prog gv 59 [bagV p] (i64V k) ∧ PTriple Tryd.prog gv 60 [bagV p] (smag w) ∧ (partOk n a p = true ↔ w = a ∧ k = n) := by
  have c1 := goodB8_ok p (by omega)
  have c2 := Count8_ok p (by omega)
  cases hg : goodB p with
  | false => rw [hg] at c1; exact .inl ⟨rfl, by simp [partOk, hg], c1⟩
  | true =>
    rw [hg] at c1 c2
    exact .inr ⟨_, _, c1, c2, Wide8_ok p (by omega) h6 hg, by simp [partOk, hg]⟩
theorem cellGood9_ok (m n a b : Int) (p q : RL) (hp : p.length ≤ 100000) (hq : q.length ≤ 100000) (h6p : RIn p) (h6q : RIn q) (ha : in64 a) (hb : in64 b) : PTriple Tryd.prog gv 29 [i64V m, cellV n a b p q] (.bool (goodC m n a b p q)) := by
  have pP := pure_R p
  have pQ := pure_R q
  have lP := lenR p
  have lQ := lenR q
  have hn0 := @nil_len q
  have cM := meas_ok m
  have cO0 := ok61 a ha
  have cO1 := ok61 b hb
  generalize hH : goodC m n a b p q = H
  simp only [goodC] at hH
  by_cases hm : 1 ≤ m ∧ m ≤ 2
  case neg =>
    have e : (decide (1 ≤ m) && decide (m ≤ 2)) = false := by simp; omega
    rw [e] at hH cM
    obtain rfl : H = false := hH.symm
    refine PTriple.of_body (C := cx) Tryd.func29 rfl (by kernel_rfl) mixed fun E hE => ?_
    repeat' (conv => whnf); first
     | (refine bcase_of (fun hr => ?_) (fun hr => ?_) <;> (try simp only [smag_cells, decide_eq_true_eq, decide_eq_false_iff_not, beq_iff_eq, beq_eq_false_iff_ne, ne_eq, bne_iff_ne, bne_eq_false_iff_eq, Bool.not_eq_true, ge_iff_le, gt_iff_lt] at hr) <;> try (exfalso; first | omega | exact hr rfl | (simp at hr; done) | (simp at hr; omega)))
     | (apply And.intro; · first | exact Nat.le_of_ble_eq_true rfl | (show indep _ _ = true; kernel_rfl) | decide | exact ⟨by decide, by decide⟩ | exact ⟨Nat.le_of_ble_eq_true rfl, allOne_of rfl⟩ | exact allOne_of rfl | exact ⟨by omega, by omega⟩ | exact pP | exact pQ)
     | (apply Exists.intro; apply And.intro; · first | exact rfl | exact cM)
     | fail
    all_goals (conv => whnf)
    all_goals rfl
  case pos =>
  rw [decide_eq_true hm.1, decide_eq_true hm.2] at hH cM
  by_cases hn : 1 ≤ n ∧ n ≤ 1099511627776
  case neg =>
    have e : (true && true && decide (1 ≤ n) && decide (n ≤ 1099511627776)) = false := by simp; omega
    rw [e] at hH
    obtain rfl : H = false := hH.symm
    refine PTriple.of_body (C := cx) Tryd.func29 rfl (by kernel_rfl) mixed fun E hE => ?_
    repeat' (conv => whnf); first
     | (refine bcase_of (fun hr => ?_) (fun hr => ?_) <;> (try simp only [smag_cells, decide_eq_true_eq, decide_eq_false_iff_not, beq_iff_eq, beq_eq_false_iff_ne, ne_eq, bne_iff_ne, bne_eq_false_iff_eq, Bool.not_eq_true, ge_iff_le, gt_iff_lt] at hr) <;> try (exfalso; first | omega | exact hr rfl | (simp at hr; done) | (simp at hr; omega)))
     | (apply And.intro; · first | exact Nat.le_of_ble_eq_true rfl | (show indep _ _ = true; kernel_rfl) | decide | exact ⟨by decide, by decide⟩ | exact ⟨Nat.le_of_ble_eq_true rfl, allOne_of rfl⟩ | exact allOne_of rfl | exact ⟨by omega, by omega⟩ | exact pP | exact pQ)
     | (apply Exists.intro; apply And.intro; · first | exact rfl | exact cM)
     | fail
    all_goals (conv => whnf)
    all_goals rfl
  case pos =>
  rw [decide_eq_true hn.1, decide_eq_true hn.2] at hH
  simp only [Bool.true_and] at hH cM
  have hm12 : m = 1 ∨ m = 2 := by omega
  rcases hm12 with rfl | rfl
  · rw [if_pos rfl] at hH
    rcases part8_facts n a p hp h6p with ⟨_, hp0, cG0⟩ | ⟨w0, k0, cG0, cK0, cW0, h0⟩
    · rw [hp0] at hH
      obtain rfl : H = false := hH.symm
      refine PTriple.of_body (C := cx) Tryd.func29 rfl (by kernel_rfl) mixed fun E hE => ?_
      repeat' (conv => whnf); first
       | (refine bcase_of (fun hr => ?_) (fun hr => ?_) <;> (try simp only [smag_cells, decide_eq_true_eq, decide_eq_false_iff_not, beq_iff_eq, beq_eq_false_iff_ne, ne_eq, bne_iff_ne, bne_eq_false_iff_eq, Bool.not_eq_true, ge_iff_le, gt_iff_lt] at hr) <;> try (exfalso; first | omega | exact hr rfl | (simp at hr; done) | (simp at hr; omega)))
       | (apply And.intro; · first | exact Nat.le_of_ble_eq_true rfl | (show indep _ _ = true; kernel_rfl) | decide | exact ⟨by decide, by decide⟩ | exact ⟨Nat.le_of_ble_eq_true rfl, allOne_of rfl⟩ | exact allOne_of rfl | exact ⟨by omega, by omega⟩ | exact pP | exact pQ)
       | (apply Exists.intro; apply And.intro; · first | exact rfl | exact cG0)
       | fail
      all_goals (conv => whnf)
      all_goals refine VLoop.unroll hE mixed ?_
      repeat' (conv => whnf); first
       | (refine bcase_of (fun hr => ?_) (fun hr => ?_) <;> (try simp only [smag_cells, decide_eq_true_eq, decide_eq_false_iff_not, beq_iff_eq, beq_eq_false_iff_ne, ne_eq, bne_iff_ne, bne_eq_false_iff_eq, Bool.not_eq_true, ge_iff_le, gt_iff_lt] at hr) <;> try (exfalso; first | omega | exact hr rfl | (simp at hr; done) | (simp at hr; omega)))
       | (apply And.intro; · first | exact Nat.le_of_ble_eq_true rfl | (show indep _ _ = true; kernel_rfl) | decide | exact ⟨by decide, by decide⟩ | exact ⟨Nat.le_of_ble_eq_true rfl, allOne_of rfl⟩ | exact allOne_of rfl | exact ⟨by omega, by omega⟩ | exact pP | exact pQ)
       | (apply Exists.intro; apply And.intro; · first | exact rfl | exact cG0)
       | fail
      all_goals (conv => whnf)
      all_goals first | rfl | (exfalso; omega)
    · cases hp0 : partOk n a p with
      | false =>
        rw [hp0] at hH h0
        obtain rfl : H = false := hH.symm
        have h0' : ¬ (w0 = a ∧ k0 = n) := fun h => by have := h0.2 h; cases this
        refine PTriple.of_body (C := cx) Tryd.func29 rfl (by kernel_rfl) mixed fun E hE => ?_
        repeat' (conv => whnf); first
         | (refine bcase_of (fun hr => ?_) (fun hr => ?_) <;> (try simp only [smag_cells, decide_eq_true_eq, decide_eq_false_iff_not, beq_iff_eq, beq_eq_false_iff_ne, ne_eq, bne_iff_ne, bne_eq_false_iff_eq, Bool.not_eq_true, ge_iff_le, gt_iff_lt] at hr) <;> try (exfalso; first | omega | exact hr rfl | (simp at hr; done) | (simp at hr; omega)))
         | (apply And.intro; · first | exact Nat.le_of_ble_eq_true rfl | (show indep _ _ = true; kernel_rfl) | decide | exact ⟨by decide, by decide⟩ | exact ⟨Nat.le_of_ble_eq_true rfl, allOne_of rfl⟩ | exact allOne_of rfl | exact ⟨by omega, by omega⟩ | exact pP | exact pQ)
         | (apply Exists.intro; apply And.intro; · first | exact rfl | exact cG0 | exact cK0 | exact cW0 | exact cO0)
         | fail
        all_goals (conv => whnf)
        all_goals refine VLoop.unroll hE mixed ?_
        repeat' (conv => whnf); first
         | (refine bcase_of (fun hr => ?_) (fun hr => ?_) <;> (try simp only [smag_cells, decide_eq_true_eq, decide_eq_false_iff_not, beq_iff_eq, beq_eq_false_iff_ne, ne_eq, bne_iff_ne, bne_eq_false_iff_eq, Bool.not_eq_true, ge_iff_le, gt_iff_lt] at hr) <;> try (exfalso; first | omega | exact hr rfl | (simp at hr; done) | (simp at hr; omega)))
         | (apply And.intro; · first | exact Nat.le_of_ble_eq_true rfl | (show indep _ _ = true; kernel_rfl) | decide | exact ⟨by decide, by decide⟩ | exact ⟨Nat.le_of_ble_eq_true rfl, allOne_of rfl⟩ | exact allOne_of rfl | exact ⟨by omega, by omega⟩ | exact pP | exact pQ)
         | (apply Exists.intro; apply And.intro; · first | exact rfl | exact cG0 | exact cK0 | exact cW0 | exact cO0)
         | fail
        all_goals (conv => whnf)
        all_goals first | rfl | (exfalso; omega)
      | true =>
        rw [hp0] at hH h0
        obtain ⟨rfl, rfl⟩ := h0.1 rfl
        simp only [Bool.true_and] at hH
        by_cases hz : b = 0 ∧ q.length = 0
        · rw [decide_eq_true hz.1, decide_eq_true (hn0.2 hz.2)] at hH
          obtain rfl : H = true := hH.symm
          refine PTriple.of_body (C := cx) Tryd.func29 rfl (by kernel_rfl) mixed fun E hE => ?_
          repeat' (conv => whnf); first
           | (refine bcase_of (fun hr => ?_) (fun hr => ?_) <;> (try simp only [smag_cells, decide_eq_true_eq, decide_eq_false_iff_not, beq_iff_eq, beq_eq_false_iff_ne, ne_eq, bne_iff_ne, bne_eq_false_iff_eq, Bool.not_eq_true, ge_iff_le, gt_iff_lt] at hr) <;> try (exfalso; first | omega | exact hr rfl | (simp at hr; done) | (simp at hr; omega)))
           | (apply And.intro; · first | exact Nat.le_of_ble_eq_true rfl | (show indep _ _ = true; kernel_rfl) | decide | exact ⟨by decide, by decide⟩ | exact ⟨Nat.le_of_ble_eq_true rfl, allOne_of rfl⟩ | exact allOne_of rfl | exact ⟨by omega, by omega⟩ | exact pP | exact pQ)
           | (apply Exists.intro; apply And.intro; · first | exact rfl | exact cG0 | exact cK0 | exact cW0 | exact cO0)
           | fail
          all_goals (conv => whnf)
          all_goals refine VLoop.unroll hE mixed ?_
          repeat' (conv => whnf); first
           | (refine bcase_of (fun hr => ?_) (fun hr => ?_) <;> (try simp only [smag_cells, decide_eq_true_eq, decide_eq_false_iff_not, beq_iff_eq, beq_eq_false_iff_ne, ne_eq, bne_iff_ne, bne_eq_false_iff_eq, Bool.not_eq_true, ge_iff_le, gt_iff_lt] at hr) <;> try (exfalso; first | omega | exact hr rfl | (simp at hr; done) | (simp at hr; omega)))
           | (apply And.intro; · first | exact Nat.le_of_ble_eq_true rfl | (show indep _ _ = true; kernel_rfl) | decide | exact ⟨by decide, by decide⟩ | exact ⟨Nat.le_of_ble_eq_true rfl, allOne_of rfl⟩ | exact allOne_of rfl | exact ⟨by omega, by omega⟩ | exact pP | exact pQ)
           | (apply Exists.intro; apply And.intro; · first | exact rfl | exact cG0 | exact cK0 | exact cW0 | exact cO0)
           | fail
          all_goals (conv => whnf)
          all_goals refine VLoop.unroll hE mixed ?_
          repeat' (conv => whnf); first
           | (refine bcase_of (fun hr => ?_) (fun hr => ?_) <;> (try simp only [smag_cells, decide_eq_true_eq, decide_eq_false_iff_not, beq_iff_eq, beq_eq_false_iff_ne, ne_eq, bne_iff_ne, bne_eq_false_iff_eq, Bool.not_eq_true, ge_iff_le, gt_iff_lt] at hr) <;> try (exfalso; first | omega | exact hr rfl | (simp at hr; done) | (simp at hr; omega)))
           | (apply And.intro; · first | exact Nat.le_of_ble_eq_true rfl | (show indep _ _ = true; kernel_rfl) | decide | exact ⟨by decide, by decide⟩ | exact ⟨Nat.le_of_ble_eq_true rfl, allOne_of rfl⟩ | exact allOne_of rfl | exact ⟨by omega, by omega⟩ | exact pP | exact pQ)
           | (apply Exists.intro; apply And.intro; · first | exact rfl | exact cG0 | exact cK0 | exact cW0 | exact cO0)
           | fail
          all_goals (conv => whnf)
          all_goals refine VLoop.unroll hE mixed ?_
          repeat' (conv => whnf); first
           | (refine bcase_of (fun hr => ?_) (fun hr => ?_) <;> (try simp only [smag_cells, decide_eq_true_eq, decide_eq_false_iff_not, beq_iff_eq, beq_eq_false_iff_ne, ne_eq, bne_iff_ne, bne_eq_false_iff_eq, Bool.not_eq_true, ge_iff_le, gt_iff_lt] at hr) <;> try (exfalso; first | omega | exact hr rfl | (simp at hr; done) | (simp at hr; omega)))
           | (apply And.intro; · first | exact Nat.le_of_ble_eq_true rfl | (show indep _ _ = true; kernel_rfl) | decide | exact ⟨by decide, by decide⟩ | exact ⟨Nat.le_of_ble_eq_true rfl, allOne_of rfl⟩ | exact allOne_of rfl | exact ⟨by omega, by omega⟩ | exact pP | exact pQ)
           | (apply Exists.intro; apply And.intro; · first | exact rfl | exact cG0 | exact cK0 | exact cW0 | exact cO0)
           | fail
          all_goals (conv => whnf)
          all_goals first | rfl | (exfalso; omega)
        · have e : (decide (b = 0) && decide (q = [])) = false := by
            simp only [Bool.and_eq_false_iff, decide_eq_false_iff_not, hn0]; omega
          rw [e] at hH
          obtain rfl : H = false := hH.symm
          refine PTriple.of_body (C := cx) Tryd.func29 rfl (by kernel_rfl) mixed fun E hE => ?_
          repeat' (conv => whnf); first
           | (refine bcase_of (fun hr => ?_) (fun hr => ?_) <;> (try simp only [smag_cells, decide_eq_true_eq, decide_eq_false_iff_not, beq_iff_eq, beq_eq_false_iff_ne, ne_eq, bne_iff_ne, bne_eq_false_iff_eq, Bool.not_eq_true, ge_iff_le, gt_iff_lt] at hr) <;> try (exfalso; first | omega | exact hr rfl | (simp at hr; done) | (simp at hr; omega)))
           | (apply And.intro; · first | exact Nat.le_of_ble_eq_true rfl | (show indep _ _ = true; kernel_rfl) | decide | exact ⟨by decide, by decide⟩ | exact ⟨Nat.le_of_ble_eq_true rfl, allOne_of rfl⟩ | exact allOne_of rfl | exact ⟨by omega, by omega⟩ | exact pP | exact pQ)
           | (apply Exists.intro; apply And.intro; · first | exact rfl | exact cG0 | exact cK0 | exact cW0 | exact cO0)
           | fail
          all_goals (conv => whnf)
          all_goals refine VLoop.unroll hE mixed ?_
          repeat' (conv => whnf); first
           | (refine bcase_of (fun hr => ?_) (fun hr => ?_) <;> (try simp only [smag_cells, decide_eq_true_eq, decide_eq_false_iff_not, beq_iff_eq, beq_eq_false_iff_ne, ne_eq, bne_iff_ne, bne_eq_false_iff_eq, Bool.not_eq_true, ge_iff_le, gt_iff_lt] at hr) <;> try (exfalso; first | omega | exact hr rfl | (simp at hr; done) | (simp at hr; omega)))
           | (apply And.intro; · first | exact Nat.le_of_ble_eq_true rfl | (show indep _ _ = true; kernel_rfl) | decide | exact ⟨by decide, by decide⟩ | exact ⟨Nat.le_of_ble_eq_true rfl, allOne_of rfl⟩ | exact allOne_of rfl | exact ⟨by omega, by omega⟩ | exact pP | exact pQ)
           | (apply Exists.intro; apply And.intro; · first | exact rfl | exact cG0 | exact cK0 | exact cW0 | exact cO0)
           | fail
          all_goals (conv => whnf)
          all_goals refine VLoop.unroll hE mixed ?_
          repeat' (conv => whnf); first
           | (refine bcase_of (fun hr => ?_) (fun hr => ?_) <;> (try simp only [smag_cells, decide_eq_true_eq, decide_eq_false_iff_not, beq_iff_eq, beq_eq_false_iff_ne, ne_eq, bne_iff_ne, bne_eq_false_iff_eq, Bool.not_eq_true, ge_iff_le, gt_iff_lt] at hr) <;> try (exfalso; first | omega | exact hr rfl | (simp at hr; done) | (simp at hr; omega)))
           | (apply And.intro; · first | exact Nat.le_of_ble_eq_true rfl | (show indep _ _ = true; kernel_rfl) | decide | exact ⟨by decide, by decide⟩ | exact ⟨Nat.le_of_ble_eq_true rfl, allOne_of rfl⟩ | exact allOne_of rfl | exact ⟨by omega, by omega⟩ | exact pP | exact pQ)
           | (apply Exists.intro; apply And.intro; · first | exact rfl | exact cG0 | exact cK0 | exact cW0 | exact cO0)
           | fail
          all_goals (conv => whnf)
          all_goals first | rfl | (exfalso; omega)
  · rw [if_neg (by decide)] at hH
    rcases part8_facts n a p hp h6p with ⟨_, hp0, cG0⟩ | ⟨w0, k0, cG0, cK0, cW0, h0⟩
    · rw [hp0] at hH
      obtain rfl : H = false := hH.symm
      refine PTriple.of_body (C := cx) Tryd.func29 rfl (by kernel_rfl) mixed fun E hE => ?_
      repeat' (conv => whnf); first
       | (refine bcase_of (fun hr => ?_) (fun hr => ?_) <;> (try simp only [smag_cells, decide_eq_true_eq, decide_eq_false_iff_not, beq_iff_eq, beq_eq_false_iff_ne, ne_eq, bne_iff_ne, bne_eq_false_iff_eq, Bool.not_eq_true, ge_iff_le, gt_iff_lt] at hr) <;> try (exfalso; first | omega | exact hr rfl | (simp at hr; done) | (simp at hr; omega)))
       | (apply And.intro; · first | exact Nat.le_of_ble_eq_true rfl | (show indep _ _ = true; kernel_rfl) | decide | exact ⟨by decide, by decide⟩ | exact ⟨Nat.le_of_ble_eq_true rfl, allOne_of rfl⟩ | exact allOne_of rfl | exact ⟨by omega, by omega⟩ | exact pP | exact pQ)
       | (apply Exists.intro; apply And.intro; · first | exact rfl | exact cG0)
       | fail
      all_goals (conv => whnf)
      all_goals refine VLoop.unroll hE mixed ?_
      repeat' (conv => whnf); first
       | (refine bcase_of (fun hr => ?_) (fun hr => ?_) <;> (try simp only [smag_cells, decide_eq_true_eq, decide_eq_false_iff_not, beq_iff_eq, beq_eq_false_iff_ne, ne_eq, bne_iff_ne, bne_eq_false_iff_eq, Bool.not_eq_true, ge_iff_le, gt_iff_lt] at hr) <;> try (exfalso; first | omega | exact hr rfl | (simp at hr; done) | (simp at hr; omega)))
       | (apply And.intro; · first | exact Nat.le_of_ble_eq_true rfl | (show indep _ _ = true; kernel_rfl) | decide | exact ⟨by decide, by decide⟩ | exact ⟨Nat.le_of_ble_eq_true rfl, allOne_of rfl⟩ | exact allOne_of rfl | exact ⟨by omega, by omega⟩ | exact pP | exact pQ)
       | (apply Exists.intro; apply And.intro; · first | exact rfl | exact cG0)
       | fail
      all_goals (conv => whnf)
      all_goals first | rfl | (exfalso; omega)
    · cases hp0 : partOk n a p with
      | false =>
        rw [hp0] at hH h0
        obtain rfl : H = false := hH.symm
        have h0' : ¬ (w0 = a ∧ k0 = n) := fun h => by have := h0.2 h; cases this
        refine PTriple.of_body (C := cx) Tryd.func29 rfl (by kernel_rfl) mixed fun E hE => ?_
        repeat' (conv => whnf); first
         | (refine bcase_of (fun hr => ?_) (fun hr => ?_) <;> (try simp only [smag_cells, decide_eq_true_eq, decide_eq_false_iff_not, beq_iff_eq, beq_eq_false_iff_ne, ne_eq, bne_iff_ne, bne_eq_false_iff_eq, Bool.not_eq_true, ge_iff_le, gt_iff_lt] at hr) <;> try (exfalso; first | omega | exact hr rfl | (simp at hr; done) | (simp at hr; omega)))
         | (apply And.intro; · first | exact Nat.le_of_ble_eq_true rfl | (show indep _ _ = true; kernel_rfl) | decide | exact ⟨by decide, by decide⟩ | exact ⟨Nat.le_of_ble_eq_true rfl, allOne_of rfl⟩ | exact allOne_of rfl | exact ⟨by omega, by omega⟩ | exact pP | exact pQ)
         | (apply Exists.intro; apply And.intro; · first | exact rfl | exact cG0 | exact cK0 | exact cW0 | exact cO0)
         | fail
        all_goals (conv => whnf)
        all_goals refine VLoop.unroll hE mixed ?_
        repeat' (conv => whnf); first
         | (refine bcase_of (fun hr => ?_) (fun hr => ?_) <;> (try simp only [smag_cells, decide_eq_true_eq, decide_eq_false_iff_not, beq_iff_eq, beq_eq_false_iff_ne, ne_eq, bne_iff_ne, bne_eq_false_iff_eq, Bool.not_eq_true, ge_iff_le, gt_iff_lt] at hr) <;> try (exfalso; first | omega | exact hr rfl | (simp at hr; done) | (simp at hr; omega)))
         | (apply And.intro; · first | exact Nat.le_of_ble_eq_true rfl | (show indep _ _ = true; kernel_rfl) | decide | exact ⟨by decide, by decide⟩ | exact ⟨Nat.le_of_ble_eq_true rfl, allOne_of rfl⟩ | exact allOne_of rfl | exact ⟨by omega, by omega⟩ | exact pP | exact pQ)
         | (apply Exists.intro; apply And.intro; · first | exact rfl | exact cG0 | exact cK0 | exact cW0 | exact cO0)
         | fail
        all_goals (conv => whnf)
        all_goals first | rfl | (exfalso; omega)
      | true =>
        rw [hp0] at hH h0
        obtain ⟨rfl, rfl⟩ := h0.1 rfl
        simp only [Bool.true_and] at hH
        rcases part8_facts k0 b q hq h6q with ⟨_, hp1, cG1⟩ | ⟨w1, k1, cG1, cK1, cW1, h1⟩
        · rw [hp1] at hH
          obtain rfl : H = false := hH.symm
          refine PTriple.of_body (C := cx) Tryd.func29 rfl (by kernel_rfl) mixed fun E hE => ?_
          repeat' (conv => whnf); first
           | (refine bcase_of (fun hr => ?_) (fun hr => ?_) <;> (try simp only [smag_cells, decide_eq_true_eq, decide_eq_false_iff_not, beq_iff_eq, beq_eq_false_iff_ne, ne_eq, bne_iff_ne, bne_eq_false_iff_eq, Bool.not_eq_true, ge_iff_le, gt_iff_lt] at hr) <;> try (exfalso; first | omega | exact hr rfl | (simp at hr; done) | (simp at hr; omega)))
           | (apply And.intro; · first | exact Nat.le_of_ble_eq_true rfl | (show indep _ _ = true; kernel_rfl) | decide | exact ⟨by decide, by decide⟩ | exact ⟨Nat.le_of_ble_eq_true rfl, allOne_of rfl⟩ | exact allOne_of rfl | exact ⟨by omega, by omega⟩ | exact pP | exact pQ)
           | (apply Exists.intro; apply And.intro; · first | exact rfl | exact cG0 | exact cK0 | exact cW0 | exact cO0 | exact cG1)
           | fail
          all_goals (conv => whnf)
          all_goals refine VLoop.unroll hE mixed ?_
          repeat' (conv => whnf); first
           | (refine bcase_of (fun hr => ?_) (fun hr => ?_) <;> (try simp only [smag_cells, decide_eq_true_eq, decide_eq_false_iff_not, beq_iff_eq, beq_eq_false_iff_ne, ne_eq, bne_iff_ne, bne_eq_false_iff_eq, Bool.not_eq_true, ge_iff_le, gt_iff_lt] at hr) <;> try (exfalso; first | omega | exact hr rfl | (simp at hr; done) | (simp at hr; omega)))
           | (apply And.intro; · first | exact Nat.le_of_ble_eq_true rfl | (show indep _ _ = true; kernel_rfl) | decide | exact ⟨by decide, by decide⟩ | exact ⟨Nat.le_of_ble_eq_true rfl, allOne_of rfl⟩ | exact allOne_of rfl | exact ⟨by omega, by omega⟩ | exact pP | exact pQ)
           | (apply Exists.intro; apply And.intro; · first | exact rfl | exact cG0 | exact cK0 | exact cW0 | exact cO0 | exact cG1)
           | fail
          all_goals (conv => whnf)
          all_goals refine VLoop.unroll hE mixed ?_
          repeat' (conv => whnf); first
           | (refine bcase_of (fun hr => ?_) (fun hr => ?_) <;> (try simp only [smag_cells, decide_eq_true_eq, decide_eq_false_iff_not, beq_iff_eq, beq_eq_false_iff_ne, ne_eq, bne_iff_ne, bne_eq_false_iff_eq, Bool.not_eq_true, ge_iff_le, gt_iff_lt] at hr) <;> try (exfalso; first | omega | exact hr rfl | (simp at hr; done) | (simp at hr; omega)))
           | (apply And.intro; · first | exact Nat.le_of_ble_eq_true rfl | (show indep _ _ = true; kernel_rfl) | decide | exact ⟨by decide, by decide⟩ | exact ⟨Nat.le_of_ble_eq_true rfl, allOne_of rfl⟩ | exact allOne_of rfl | exact ⟨by omega, by omega⟩ | exact pP | exact pQ)
           | (apply Exists.intro; apply And.intro; · first | exact rfl | exact cG0 | exact cK0 | exact cW0 | exact cO0 | exact cG1)
           | fail
          all_goals (conv => whnf)
          all_goals first | rfl | (exfalso; omega)
        · cases hp1 : partOk k0 b q with
          | false =>
            rw [hp1] at hH h1
            obtain rfl : H = false := hH.symm
            have h1' : ¬ (w1 = b ∧ k1 = k0) := fun h => by have := h1.2 h; cases this
            refine PTriple.of_body (C := cx) Tryd.func29 rfl (by kernel_rfl) mixed fun E hE => ?_
            repeat' (conv => whnf); first
             | (refine bcase_of (fun hr => ?_) (fun hr => ?_) <;> (try simp only [smag_cells, decide_eq_true_eq, decide_eq_false_iff_not, beq_iff_eq, beq_eq_false_iff_ne, ne_eq, bne_iff_ne, bne_eq_false_iff_eq, Bool.not_eq_true, ge_iff_le, gt_iff_lt] at hr) <;> try (exfalso; first | omega | exact hr rfl | (simp at hr; done) | (simp at hr; omega)))
             | (apply And.intro; · first | exact Nat.le_of_ble_eq_true rfl | (show indep _ _ = true; kernel_rfl) | decide | exact ⟨by decide, by decide⟩ | exact ⟨Nat.le_of_ble_eq_true rfl, allOne_of rfl⟩ | exact allOne_of rfl | exact ⟨by omega, by omega⟩ | exact pP | exact pQ)
             | (apply Exists.intro; apply And.intro; · first | exact rfl | exact cG0 | exact cK0 | exact cW0 | exact cO0 | exact cG1 | exact cK1 | exact cW1 | exact cO1)
             | fail
            all_goals (conv => whnf)
            all_goals refine VLoop.unroll hE mixed ?_
            repeat' (conv => whnf); first
             | (refine bcase_of (fun hr => ?_) (fun hr => ?_) <;> (try simp only [smag_cells, decide_eq_true_eq, decide_eq_false_iff_not, beq_iff_eq, beq_eq_false_iff_ne, ne_eq, bne_iff_ne, bne_eq_false_iff_eq, Bool.not_eq_true, ge_iff_le, gt_iff_lt] at hr) <;> try (exfalso; first | omega | exact hr rfl | (simp at hr; done) | (simp at hr; omega)))
             | (apply And.intro; · first | exact Nat.le_of_ble_eq_true rfl | (show indep _ _ = true; kernel_rfl) | decide | exact ⟨by decide, by decide⟩ | exact ⟨Nat.le_of_ble_eq_true rfl, allOne_of rfl⟩ | exact allOne_of rfl | exact ⟨by omega, by omega⟩ | exact pP | exact pQ)
             | (apply Exists.intro; apply And.intro; · first | exact rfl | exact cG0 | exact cK0 | exact cW0 | exact cO0 | exact cG1 | exact cK1 | exact cW1 | exact cO1)
             | fail
            all_goals (conv => whnf)
            all_goals refine VLoop.unroll hE mixed ?_
            repeat' (conv => whnf); first
             | (refine bcase_of (fun hr => ?_) (fun hr => ?_) <;> (try simp only [smag_cells, decide_eq_true_eq, decide_eq_false_iff_not, beq_iff_eq, beq_eq_false_iff_ne, ne_eq, bne_iff_ne, bne_eq_false_iff_eq, Bool.not_eq_true, ge_iff_le, gt_iff_lt] at hr) <;> try (exfalso; first | omega | exact hr rfl | (simp at hr; done) | (simp at hr; omega)))
             | (apply And.intro; · first | exact Nat.le_of_ble_eq_true rfl | (show indep _ _ = true; kernel_rfl) | decide | exact ⟨by decide, by decide⟩ | exact ⟨Nat.le_of_ble_eq_true rfl, allOne_of rfl⟩ | exact allOne_of rfl | exact ⟨by omega, by omega⟩ | exact pP | exact pQ)
             | (apply Exists.intro; apply And.intro; · first | exact rfl | exact cG0 | exact cK0 | exact cW0 | exact cO0 | exact cG1 | exact cK1 | exact cW1 | exact cO1)
             | fail
            all_goals (conv => whnf)
            all_goals first | rfl | (exfalso; omega)
          | true =>
            rw [hp1] at hH h1
            obtain ⟨rfl, rfl⟩ := h1.1 rfl
            obtain rfl : H = true := hH.symm
            refine PTriple.of_body (C := cx) Tryd.func29 rfl (by kernel_rfl) mixed fun E hE => ?_
            repeat' (conv => whnf); first
             | (refine bcase_of (fun hr => ?_) (fun hr => ?_) <;> (try simp only [smag_cells, decide_eq_true_eq, decide_eq_false_iff_not, beq_iff_eq, beq_eq_false_iff_ne, ne_eq, bne_iff_ne, bne_eq_false_iff_eq, Bool.not_eq_true, ge_iff_le, gt_iff_lt] at hr) <;> try (exfalso; first | omega | exact hr rfl | (simp at hr; done) | (simp at hr; omega)))
             | (apply And.intro; · first | exact Nat.le_of_ble_eq_true rfl | (show indep _ _ = true; kernel_rfl) | decide | exact ⟨by decide, by decide⟩ | exact ⟨Nat.le_of_ble_eq_true rfl, allOne_of rfl⟩ | exact allOne_of rfl | exact ⟨by omega, by omega⟩ | exact pP | exact pQ)
             | (apply Exists.intro; apply And.intro; · first | exact rfl | exact cG0 | exact cK0 | exact cW0 | exact cO0 | exact cG1 | exact cK1 | exact cW1 | exact cO1)
             | fail
            all_goals (conv => whnf)
            all_goals refine VLoop.unroll hE mixed ?_
            repeat' (conv => whnf); first
             | (refine bcase_of (fun hr => ?_) (fun hr => ?_) <;> (try simp only [smag_cells, decide_eq_true_eq, decide_eq_false_iff_not, beq_iff_eq, beq_eq_false_iff_ne, ne_eq, bne_iff_ne, bne_eq_false_iff_eq, Bool.not_eq_true, ge_iff_le, gt_iff_lt] at hr) <;> try (exfalso; first | omega | exact hr rfl | (simp at hr; done) | (simp at hr; omega)))
             | (apply And.intro; · first | exact Nat.le_of_ble_eq_true rfl | (show indep _ _ = true; kernel_rfl) | decide | exact ⟨by decide, by decide⟩ | exact ⟨Nat.le_of_ble_eq_true rfl, allOne_of rfl⟩ | exact allOne_of rfl | exact ⟨by omega, by omega⟩ | exact pP | exact pQ)
             | (apply Exists.intro; apply And.intro; · first | exact rfl | exact cG0 | exact cK0 | exact cW0 | exact cO0 | exact cG1 | exact cK1 | exact cW1 | exact cO1)
             | fail
            all_goals (conv => whnf)
            all_goals refine VLoop.unroll hE mixed ?_
            repeat' (conv => whnf); first
             | (refine bcase_of (fun hr => ?_) (fun hr => ?_) <;> (try simp only [smag_cells, decide_eq_true_eq, decide_eq_false_iff_not, beq_iff_eq, beq_eq_false_iff_ne, ne_eq, bne_iff_ne, bne_eq_false_iff_eq, Bool.not_eq_true, ge_iff_le, gt_iff_lt] at hr) <;> try (exfalso; first | omega | exact hr rfl | (simp at hr; done) | (simp at hr; omega)))
             | (apply And.intro; · first | exact Nat.le_of_ble_eq_true rfl | (show indep _ _ = true; kernel_rfl) | decide | exact ⟨by decide, by decide⟩ | exact ⟨Nat.le_of_ble_eq_true rfl, allOne_of rfl⟩ | exact allOne_of rfl | exact ⟨by omega, by omega⟩ | exact pP | exact pQ)
             | (apply Exists.intro; apply And.intro; · first | exact rfl | exact cG0 | exact cK0 | exact cW0 | exact cO0 | exact cG1 | exact cK1 | exact cW1 | exact cO1)
             | fail
            all_goals (conv => whnf)
            all_goals refine VLoop.unroll hE mixed ?_
            repeat' (conv => whnf); first
             | (refine bcase_of (fun hr => ?_) (fun hr => ?_) <;> (try simp only [smag_cells, decide_eq_true_eq, decide_eq_false_iff_not, beq_iff_eq, beq_eq_false_iff_ne, ne_eq, bne_iff_ne, bne_eq_false_iff_eq, Bool.not_eq_true, ge_iff_le, gt_iff_lt] at hr) <;> try (exfalso; first | omega | exact hr rfl | (simp at hr; done) | (simp at hr; omega)))
             | (apply And.intro; · first | exact Nat.le_of_ble_eq_true rfl | (show indep _ _ = true; kernel_rfl) | decide | exact ⟨by decide, by decide⟩ | exact ⟨Nat.le_of_ble_eq_true rfl, allOne_of rfl⟩ | exact allOne_of rfl | exact ⟨by omega, by omega⟩ | exact pP | exact pQ)
             | (apply Exists.intro; apply And.intro; · first | exact rfl | exact cG0 | exact cK0 | exact cW0 | exact cO0 | exact cG1 | exact cK1 | exact cW1 | exact cO1)
             | fail
            all_goals (conv => whnf)
            all_goals first | rfl | (exfalso; omega)
end Go.Proofs.YtbppemcdphgknaaDoor
/- Chapter 13: are cells alike. -/
namespace Go.Proofs.YtbppemcdphgknaaDoor
open Go Go.Vm
set_option maxRecDepth 100000
set_option maxHeartbeats 40000000
set_option linter.unusedSimpArgs false
set_option linter.unusedVariables false
abbrev zV : V := .agg [i64V 0, i64V 0, i64V 0, .nils, .nils]
theorem zV_rel {ρ : Rho} {M : Mem} {v : Value} (h : VRel ρ M zV v) : VRel ρ M (cellV 0 0 0 [] []) v := by
  cases h with
  | agg h1 h2 =>
    have : VsRel ρ M [i64V 0, i64V 0, i64V 0, .nils, .nils] _ := ⟨h1, h2⟩
    have h3 := (Nilled.same (v := i64V 0) (.same (v := i64V 0) (.same (v := i64V 0) (.nils (sz := 2) (.nils (sz := 2) .nil))))).rel this
    exact .agg h3.1 h3.2
/-- Zero cells are cells. -/
inductive ZNil : List V → List V → Prop
  | nil : ZNil [] []
  | same {v : V} {l l' : List V} : ZNil l l' → ZNil (v :: l) (v :: l')
  | zero {l l' : List V} : ZNil l l' → ZNil (zV :: l) (cellV 0 0 0 [] [] :: l')
theorem ZNil.rel {l l' : List V} (h : ZNil l l') {ρ : Rho} {M : Mem} : ∀ {vs : List Value}, VsRel ρ M l vs → VsRel ρ M l' vs := by
  induction h with
  | nil => exact fun h => h
  | same _ ih => intro vs h; obtain ⟨v', r, rfl, h1, h2⟩ := h.uncons; exact .cons h1 (ih h2)
  | zero _ ih => intro vs h; obtain ⟨v', r, rfl, h1, h2⟩ := h.uncons; exact .cons (zV_rel h1) (ih h2)
theorem _root_.Go.Vm.PTriple.zarg {P : Program} {G : Nat → V} {f : FuncId} {args args' : List V} {r : V} (h : PTriple P G f args r) (ha : ZNil args' args) : PTriple P G f args' r :=
  h.weak (fun _ _ h => ha.rel h) fun _ _ h => h
theorem _root_.Go.Vm.PTriple.zres {P : Program} {G : Nat → V} {f : FuncId} {args : List V} {b : V} (h : PTriple P G f args (.tup [zV, b])) : PTriple P G f args (.tup [cellV 0 0 0 [] [], b]) :=
  h.weak (fun _ _ h => h) fun M v h => by
    cases h with
    | tup h1 h2 =>
      have : VsRel (fun _ => none) M [zV, b] _ := ⟨h1, h2⟩
      have h3 := (ZNil.zero (.same (v := b) .nil)).rel this
      exact .tup h3.1 h3.2
def stEq (p q : RL) (i : Nat) : St DV := mkSt 26 [(0, bagV p), (1, bagV q), (12, i64V p.length), (13, i64V i)] [] []
theorem pair_ne {x y : Int × Int} : (x.1 == y.1 && (x.2 == y.2 && true)) = decide (x = y) := by
  rw [Bool.eq_iff_iff]; simp [Prod.ext_iff]
theorem equal_ok (p q : RL) (hp : p.length ≤ 100000) (hq : q.length ≤ 100000) : PTriple Tryd.prog gv 80 [bagV p, bagV q] (.bool (decide (p = q))) := by
  have pP := pure_R p
  have pQ := pure_R q
  have lP := lenR p
  have lQ := lenR q
  by_cases hlen : p.length = q.length
  case neg =>
    have hd : decide (p = q) = false := by simp; intro e; exact hlen (by rw [e])
    rw [hd]
    refine PTriple.of_body (C := cx) Tryd.func80 rfl (by kernel_rfl) mixed fun E hE => ?_
    repeat' (conv => whnf); first
     | (refine bcase_of (fun hr => ?_) (fun hr => ?_) <;> (try simp only [decide_eq_true_eq, decide_eq_false_iff_not, beq_iff_eq, beq_eq_false_iff_ne, ne_eq, bne_iff_ne, bne_eq_false_iff_eq, Bool.not_eq_true, ge_iff_le, gt_iff_lt] at hr) <;> try (exfalso; first | omega | exact hr rfl | (simp at hr; done) | (simp at hr; omega)))
     | (apply And.intro; · first | exact Nat.le_of_ble_eq_true rfl | (show indep _ _ = true; kernel_rfl) | decide | exact ⟨by decide, by decide⟩ | exact ⟨Nat.le_of_ble_eq_true rfl, allOne_of rfl⟩ | exact allOne_of rfl | exact ⟨by omega, by omega⟩)
     | (apply Exists.intro; apply And.intro; · first | exact rfl)
     | fail
    all_goals (conv => whnf)
    all_goals rfl
  case pos =>
    refine PTriple.of_body (C := cx) Tryd.func80 rfl (by kernel_rfl) mixed fun E hE => ?_
    repeat' (conv => whnf); first
     | (refine bcase_of (fun hr => ?_) (fun hr => ?_) <;> (try simp only [decide_eq_true_eq, decide_eq_false_iff_not, beq_iff_eq, beq_eq_false_iff_ne, ne_eq, bne_iff_ne, bne_eq_false_iff_eq, Bool.not_eq_true, ge_iff_le, gt_iff_lt] at hr) <;> try (exfalso; first | omega | exact hr rfl | (simp at hr; done) | (simp at hr; omega)))
     | (apply And.intro; · first | exact Nat.le_of_ble_eq_true rfl | (show indep _ _ = true; kernel_rfl) | decide | exact ⟨by decide, by decide⟩ | exact ⟨Nat.le_of_ble_eq_true rfl, allOne_of rfl⟩ | exact allOne_of rfl | exact ⟨by omega, by omega⟩)
     | (apply Exists.intro; apply And.intro; · first | exact rfl)
     | fail
    all_goals (conv => whnf)
    refine VLoop.norm [0, 1, 12, 13] [] ?_
    repeat' (conv => whnf); first
     | (apply And.intro; · first | exact Nat.le_of_ble_eq_true rfl | (show indep _ _ = true; kernel_rfl) | decide | exact pP | exact pQ)
     | (apply Exists.intro; apply And.intro; · first | exact rfl)
     | fail
    refine VLoop.inv (fun i : Nat => stEq p q i) (fun i => i ≤ p.length ∧ p.take i = q.take i) (fun i => p.length - i) 0 ⟨Nat.zero_le _, by simp⟩ (by unfold stEq; rw [← lP]; rfl) ?_
    intro i ⟨hi, heq⟩ ih
    by_cases hgo : i < p.length
    case neg =>
      have he : p = q := by rwa [List.take_of_length_le (by omega), List.take_of_length_le (by omega)] at heq
      rw [decide_eq_true he]
      refine VLoop.unroll hE mixed ?_
      repeat' (conv => whnf); first
       | (refine bcase_of (fun hr => ?_) (fun hr => ?_) <;> (try simp only [decide_eq_true_eq, decide_eq_false_iff_not, beq_iff_eq, beq_eq_false_iff_ne, ne_eq, bne_iff_ne, bne_eq_false_iff_eq, Bool.not_eq_true, ge_iff_le, gt_iff_lt] at hr) <;> try (exfalso; first | omega | exact hr rfl | (simp at hr; done) | (simp at hr; omega)))
       | (apply And.intro; · first | exact Nat.le_of_ble_eq_true rfl | (show indep _ _ = true; kernel_rfl) | decide | exact ⟨by decide, by decide⟩ | exact ⟨Nat.le_of_ble_eq_true rfl, allOne_of rfl⟩ | exact allOne_of rfl | exact ⟨by omega, by omega⟩)
       | (apply Exists.intro; apply And.intro; · first | exact rfl)
       | fail
      all_goals (conv => whnf)
      all_goals rfl
    case pos =>
      have hw : IntKind.i64.wrap ((i : Int) + 1) = ((i + 1 : Nat) : Int) := wrap64 (by omega) (by omega)
      obtain ⟨x, hx⟩ : ∃ x, p[i]? = some x := ⟨_, List.getElem?_eq_getElem hgo⟩
      obtain ⟨y, hy⟩ : ∃ y, q[i]? = some y := ⟨_, List.getElem?_eq_getElem (by omega)⟩
      have gx := getR hx
      have gy := getR hy
      have hne := @pair_ne x y
      by_cases hxy : x = y
      case pos =>
        subst hxy
        refine VLoop.unroll hE mixed ?_
        repeat' (conv => whnf); first
         | (refine bcase_of (fun hr => ?_) (fun hr => ?_) <;> (try simp only [decide_eq_true_eq, decide_eq_false_iff_not, beq_iff_eq, beq_eq_false_iff_ne, ne_eq, bne_iff_ne, bne_eq_false_iff_eq, Bool.not_eq_true, ge_iff_le, gt_iff_lt] at hr) <;> try (exfalso; first | omega | exact hr rfl | (simp at hr; done) | (simp at hr; omega) | (simp [hne] at hr; done) | (simp at hr; exact hxy (Prod.ext hr.1 hr.2)) | (simp at hr; exact h2 hr) | (simp_all; done)))
         | (apply And.intro; · first | exact Nat.le_of_ble_eq_true rfl | (show indep _ _ = true; kernel_rfl) | decide | exact ⟨by decide, by decide⟩ | exact ⟨Nat.le_of_ble_eq_true rfl, allOne_of rfl⟩ | exact allOne_of rfl | exact ⟨by omega, by omega⟩ | exact ⟨by omega, by rw [lP]; omega⟩ | exact ⟨by omega, by rw [lQ]; omega⟩)
         | (apply Exists.intro; apply And.intro; · first | exact rfl | exact gx | exact gy)
         | rw [hw]
         | fail
        all_goals (conv => whnf)
        refine VLoop.norm [0, 1, 12, 13] [] ?_
        repeat' (conv => whnf); first
         | (apply And.intro; · first | exact Nat.le_of_ble_eq_true rfl | (show indep _ _ = true; kernel_rfl) | decide | exact pP | exact pQ)
         | (apply Exists.intro; apply And.intro; · first | exact rfl)
         | fail
        try rw [hw]
        exact ih (i + 1) ⟨hgo, by rw [take_get hx, take_get hy, heq]⟩ (by omega)
      case neg =>
        have hd : decide (p = q) = false := by
          simp; intro e; rw [e, hy] at hx; cases hx; exact hxy rfl
        rw [hd]
        refine VLoop.unroll hE mixed ?_
        repeat' (conv => whnf); first
         | (refine bcase_of (fun hr => ?_) (fun hr => ?_) <;> (try simp only [decide_eq_true_eq, decide_eq_false_iff_not, beq_iff_eq, beq_eq_false_iff_ne, ne_eq, bne_iff_ne, bne_eq_false_iff_eq, Bool.not_eq_true, ge_iff_le, gt_iff_lt] at hr) <;> try (exfalso; first | omega | exact hr rfl | (simp at hr; done) | (simp at hr; omega) | (simp [hne] at hr; done) | (simp at hr; exact hxy (Prod.ext hr.1 hr.2)) | (simp at hr; exact h2 hr) | (simp_all; done)))
         | (apply And.intro; · first | exact Nat.le_of_ble_eq_true rfl | (show indep _ _ = true; kernel_rfl) | decide | exact ⟨by decide, by decide⟩ | exact ⟨Nat.le_of_ble_eq_true rfl, allOne_of rfl⟩ | exact allOne_of rfl | exact ⟨by omega, by omega⟩ | exact ⟨by omega, by rw [lP]; omega⟩ | exact ⟨by omega, by rw [lQ]; omega⟩)
         | (apply Exists.intro; apply And.intro; · first | exact rfl | exact gx | exact gy)
         | rw [hw]
         | fail
        all_goals (conv => whnf)
        all_goals rfl
theorem bagSame_ok (p q : RL) (hp : p.length ≤ 100000) (hq : q.length ≤ 100000) : PTriple Tryd.prog gv 57 [bagV p, bagV q] (.bool (decide (p = q))) := by
  have pP := pure_R p
  have pQ := pure_R q
  have c := equal_ok p q hp hq
  generalize decide (p = q) = u at c
  cases u
  all_goals refine PTriple.of_body (C := cx) Tryd.func57 rfl (by kernel_rfl) mixed fun E hE => ?_
  repeat' (conv => whnf); first
   | (refine bcase_of (fun hr => ?_) (fun hr => ?_) <;> (try simp only [decide_eq_true_eq, decide_eq_false_iff_not, beq_iff_eq, beq_eq_false_iff_ne, ne_eq, bne_iff_ne, bne_eq_false_iff_eq, Bool.not_eq_true, ge_iff_le, gt_iff_lt] at hr) <;> try (exfalso; first | omega | exact hr rfl | (simp at hr; done) | (simp at hr; omega)))
   | (apply And.intro; · first | exact Nat.le_of_ble_eq_true rfl | (show indep _ _ = true; kernel_rfl) | decide | exact ⟨by decide, by decide⟩ | exact ⟨Nat.le_of_ble_eq_true rfl, allOne_of rfl⟩ | exact allOne_of rfl | exact ⟨by omega, by omega⟩ | exact pP | exact pQ)
   | (apply Exists.intro; apply And.intro; · first | exact rfl | exact c)
   | fail
  all_goals (conv => whnf)
  all_goals rfl
theorem cellSame_ok (n a b m c d : Int) (p q r s : RL) (hp : p.length ≤ 100000) (hq : q.length ≤ 100000) (hr : r.length ≤ 100000) (hs : s.length ≤ 100000) :
    PTriple Tryd.prog gv 27 [cellV n a b p q, cellV m c d r s] (.bool (decide (n = m ∧ a = c ∧ b = d ∧ p = r ∧ q = s))) := by
  have pP := pure_R p
  have pQ := pure_R q
  have pR := pure_R r
  have pS := pure_R s
  have c1 := bagSame_ok p r hp hr
  have c2 := bagSame_ok q s hq hs
  clear hp hq hr hs
  have hne : (a == c && (b == d && true)) = decide (a = c ∧ b = d) := by rw [Bool.eq_iff_iff]; simp
  by_cases h0 : n = m ∧ a = c ∧ b = d
  case neg =>
    have e : decide (n = m ∧ a = c ∧ b = d ∧ p = r ∧ q = s) = false := by
      rw [decide_eq_false_iff_not]; rintro ⟨h1, h2, h3, _⟩; exact h0 ⟨h1, h2, h3⟩
    rw [e]
    by_cases h1 : n = m
    · have h2 : ¬ (a = c ∧ b = d) := fun h => h0 ⟨h1, h.1, h.2⟩
      rw [decide_eq_false h2] at hne
      refine PTriple.of_body (C := cx) Tryd.func27 rfl (by kernel_rfl) mixed fun E hE => ?_
      repeat' (conv => whnf); first
       | (refine bcase_of (fun hr => ?_) (fun hr => ?_) <;> (try simp only [decide_eq_true_eq, decide_eq_false_iff_not, beq_iff_eq, beq_eq_false_iff_ne, ne_eq, bne_iff_ne, bne_eq_false_iff_eq, Bool.not_eq_true, ge_iff_le, gt_iff_lt] at hr) <;> try (exfalso; first | omega | exact hr rfl | (simp at hr; done) | (simp at hr; omega) | (simp [hne] at hr; done) | (simp at hr; exact hxy (Prod.ext hr.1 hr.2)) | (simp at hr; exact h2 hr) | (simp_all; done)))
       | (apply And.intro; · first | exact Nat.le_of_ble_eq_true rfl | (show indep _ _ = true; kernel_rfl) | decide | exact ⟨by decide, by decide⟩ | exact ⟨Nat.le_of_ble_eq_true rfl, allOne_of rfl⟩ | exact allOne_of rfl | exact ⟨by omega, by omega⟩)
       | (apply Exists.intro; apply And.intro; · first | exact rfl)
       | fail
      all_goals (conv => whnf)
      all_goals rfl
    · refine PTriple.of_body (C := cx) Tryd.func27 rfl (by kernel_rfl) mixed fun E hE => ?_
      repeat' (conv => whnf); first
       | (refine bcase_of (fun hr => ?_) (fun hr => ?_) <;> (try simp only [decide_eq_true_eq, decide_eq_false_iff_not, beq_iff_eq, beq_eq_false_iff_ne, ne_eq, bne_iff_ne, bne_eq_false_iff_eq, Bool.not_eq_true, ge_iff_le, gt_iff_lt] at hr) <;> try (exfalso; first | omega | exact hr rfl | (simp at hr; done) | (simp at hr; omega) | (simp [hne] at hr; done) | (simp at hr; exact hxy (Prod.ext hr.1 hr.2)) | (simp at hr; exact h2 hr) | (simp_all; done)))
       | (apply And.intro; · first | exact Nat.le_of_ble_eq_true rfl | (show indep _ _ = true; kernel_rfl) | decide | exact ⟨by decide, by decide⟩ | exact ⟨Nat.le_of_ble_eq_true rfl, allOne_of rfl⟩ | exact allOne_of rfl | exact ⟨by omega, by omega⟩)
       | (apply Exists.intro; apply And.intro; · first | exact rfl)
       | fail
      all_goals (conv => whnf)
      all_goals rfl
  case pos =>
    obtain ⟨rfl, rfl, rfl⟩ := h0
    have e : decide (n = n ∧ a = a ∧ b = b ∧ p = r ∧ q = s) = (decide (p = r) && decide (q = s)) := by rw [Bool.eq_iff_iff]; simp
    rw [e]
    rw [decide_eq_true ⟨rfl, rfl⟩] at hne
    generalize decide (p = r) = u at c1 ⊢
    generalize decide (q = s) = v at c2 ⊢
    refine PTriple.of_body (C := cx) Tryd.func27 rfl (by kernel_rfl) mixed fun E hE => ?_
    repeat' (conv => whnf); first
     | (refine bcase_of (fun hr => ?_) (fun hr => ?_) <;> (try simp only [decide_eq_true_eq, decide_eq_false_iff_not, beq_iff_eq, beq_eq_false_iff_ne, ne_eq, bne_iff_ne, bne_eq_false_iff_eq, Bool.not_eq_true, ge_iff_le, gt_iff_lt] at hr) <;> try (exfalso; first | omega | exact hr rfl | (simp at hr; done) | (simp at hr; omega) | (simp [hne] at hr; done) | (simp at hr; exact hxy (Prod.ext hr.1 hr.2)) | (simp at hr; exact h2 hr) | (simp_all; done)))
     | (apply And.intro; · first | exact Nat.le_of_ble_eq_true rfl | (show indep _ _ = true; kernel_rfl) | decide | exact ⟨by decide, by decide⟩ | exact ⟨Nat.le_of_ble_eq_true rfl, allOne_of rfl⟩ | exact allOne_of rfl | exact ⟨by omega, by omega⟩)
     | (apply Exists.intro; apply And.intro; · first | exact rfl)
     | fail
    all_goals (conv => whnf)
    all_goals refine VLoop.unroll hE mixed ?_
    cases u with
    | false =>
      repeat' (conv => whnf); first
       | (refine bcase_of (fun hr => ?_) (fun hr => ?_) <;> (try simp only [decide_eq_true_eq, decide_eq_false_iff_not, beq_iff_eq, beq_eq_false_iff_ne, ne_eq, bne_iff_ne, bne_eq_false_iff_eq, Bool.not_eq_true, ge_iff_le, gt_iff_lt] at hr) <;> try (exfalso; first | omega | exact hr rfl | (simp at hr; done) | (simp at hr; omega) | (simp [hne] at hr; done) | (simp at hr; exact hxy (Prod.ext hr.1 hr.2)) | (simp at hr; exact h2 hr) | (simp_all; done)))
       | (apply And.intro; · first | exact Nat.le_of_ble_eq_true rfl | (show indep _ _ = true; kernel_rfl) | decide | exact ⟨by decide, by decide⟩ | exact ⟨Nat.le_of_ble_eq_true rfl, allOne_of rfl⟩ | exact allOne_of rfl | exact ⟨by omega, by omega⟩ | exact pP | exact pR)
       | (apply Exists.intro; apply And.intro; · first | exact rfl | exact c1)
       | fail
      all_goals (conv => whnf)
      all_goals rfl
    | true =>
      repeat' (conv => whnf); first
       | (refine bcase_of (fun hr => ?_) (fun hr => ?_) <;> (try simp only [decide_eq_true_eq, decide_eq_false_iff_not, beq_iff_eq, beq_eq_false_iff_ne, ne_eq, bne_iff_ne, bne_eq_false_iff_eq, Bool.not_eq_true, ge_iff_le, gt_iff_lt] at hr) <;> try (exfalso; first | omega | exact hr rfl | (simp at hr; done) | (simp at hr; omega) | (simp [hne] at hr; done) | (simp at hr; exact hxy (Prod.ext hr.1 hr.2)) | (simp at hr; exact h2 hr) | (simp_all; done)))
       | (apply And.intro; · first | exact Nat.le_of_ble_eq_true rfl | (show indep _ _ = true; kernel_rfl) | decide | exact ⟨by decide, by decide⟩ | exact ⟨Nat.le_of_ble_eq_true rfl, allOne_of rfl⟩ | exact allOne_of rfl | exact ⟨by omega, by omega⟩ | exact pP | exact pR)
       | (apply Exists.intro; apply And.intro; · first | exact rfl | exact c1)
       | fail
      all_goals (conv => whnf)
      all_goals refine VLoop.unroll hE mixed ?_
      cases v with
      | false =>
        repeat' (conv => whnf); first
         | (refine bcase_of (fun hr => ?_) (fun hr => ?_) <;> (try simp only [decide_eq_true_eq, decide_eq_false_iff_not, beq_iff_eq, beq_eq_false_iff_ne, ne_eq, bne_iff_ne, bne_eq_false_iff_eq, Bool.not_eq_true, ge_iff_le, gt_iff_lt] at hr) <;> try (exfalso; first | omega | exact hr rfl | (simp at hr; done) | (simp at hr; omega) | (simp [hne] at hr; done) | (simp at hr; exact hxy (Prod.ext hr.1 hr.2)) | (simp at hr; exact h2 hr) | (simp_all; done)))
         | (apply And.intro; · first | exact Nat.le_of_ble_eq_true rfl | (show indep _ _ = true; kernel_rfl) | decide | exact ⟨by decide, by decide⟩ | exact ⟨Nat.le_of_ble_eq_true rfl, allOne_of rfl⟩ | exact allOne_of rfl | exact ⟨by omega, by omega⟩ | exact pQ | exact pS)
         | (apply Exists.intro; apply And.intro; · first | exact rfl | exact c2)
         | fail
        all_goals (conv => whnf)
        all_goals rfl
      | true =>
        repeat' (conv => whnf); first
         | (refine bcase_of (fun hr => ?_) (fun hr => ?_) <;> (try simp only [decide_eq_true_eq, decide_eq_false_iff_not, beq_iff_eq, beq_eq_false_iff_ne, ne_eq, bne_iff_ne, bne_eq_false_iff_eq, Bool.not_eq_true, ge_iff_le, gt_iff_lt] at hr) <;> try (exfalso; first | omega | exact hr rfl | (simp at hr; done) | (simp at hr; omega) | (simp [hne] at hr; done) | (simp at hr; exact hxy (Prod.ext hr.1 hr.2)) | (simp at hr; exact h2 hr) | (simp_all; done)))
         | (apply And.intro; · first | exact Nat.le_of_ble_eq_true rfl | (show indep _ _ = true; kernel_rfl) | decide | exact ⟨by decide, by decide⟩ | exact ⟨Nat.le_of_ble_eq_true rfl, allOne_of rfl⟩ | exact allOne_of rfl | exact ⟨by omega, by omega⟩ | exact pQ | exact pS)
         | (apply Exists.intro; apply And.intro; · first | exact rfl | exact c2)
         | fail
        all_goals (conv => whnf)
        all_goals refine VLoop.unroll hE mixed ?_
        repeat' (conv => whnf); first
         | (refine bcase_of (fun hr => ?_) (fun hr => ?_) <;> (try simp only [decide_eq_true_eq, decide_eq_false_iff_not, beq_iff_eq, beq_eq_false_iff_ne, ne_eq, bne_iff_ne, bne_eq_false_iff_eq, Bool.not_eq_true, ge_iff_le, gt_iff_lt] at hr) <;> try (exfalso; first | omega | exact hr rfl | (simp at hr; done) | (simp at hr; omega) | (simp [hne] at hr; done) | (simp at hr; exact hxy (Prod.ext hr.1 hr.2)) | (simp at hr; exact h2 hr) | (simp_all; done)))
         | (apply And.intro; · first | exact Nat.le_of_ble_eq_true rfl | (show indep _ _ = true; kernel_rfl) | decide | exact ⟨by decide, by decide⟩ | exact ⟨Nat.le_of_ble_eq_true rfl, allOne_of rfl⟩ | exact allOne_of rfl | exact ⟨by omega, by omega⟩)
         | (apply Exists.intro; apply And.intro; · first | exact rfl)
         | fail
        all_goals (conv => whnf)
        all_goals rfl
end Go.Proofs.YtbppemcdphgknaaDoor
