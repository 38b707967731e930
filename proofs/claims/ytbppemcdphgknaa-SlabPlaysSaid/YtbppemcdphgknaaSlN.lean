/- Chapter 14: cells held against each other. -/
import Derived.Test.YtbppemcdphgknaaSlM
set_option linter.unusedVariables false
set_option linter.unusedSimpArgs false
namespace Go.Proofs.Ytbppemcdphgknaa
open Go Go.Vm
set_option maxRecDepth 100000
set_option maxHeartbeats 40000000
set_option linter.unusedSimpArgs false
set_option linter.unusedVariables false
theorem same9_ok (n a b m c d : Int) (p q r s : List (Int × Int)) (hp : p.length ≤ 100000) (hq : q.length ≤ 100000) (hr : r.length ≤ 100000) (hs : s.length ≤ 100000) :
    PTriple Try.prog gv 45 [cellV n a b p q, cellV m c d r s] (.bool (decide (n = m ∧ a = c ∧ b = d ∧ p = r ∧ q = s))) := by
  have c1 := same8_ok p r hp hr
  have c2 := same8_ok q s hq hs
  clear hp hq hr hs
  generalize hu : decide (p = r) = u at c1
  generalize hv : decide (q = s) = v at c2
  have p1 := pure_R p
  have p2 := pure_R q
  have p3 := pure_R r
  have p4 := pure_R s
  cases u <;> cases v
  all_goals refine PTriple.of_body (C := cx) Try.func45 rfl (by kernel_rfl) mixed fun E hE => ?_
  all_goals
    repeat' (conv => whnf); first
     | (refine bcase_of (fun hr => ?_) (fun hr => ?_) <;> try (exfalso; simp at hr; done))
     | (apply And.intro; · first | exact Nat.le_of_ble_eq_true rfl | (show indep _ _ = true; kernel_rfl) | decide | exact ⟨by decide, by decide⟩ | exact ⟨Nat.le_of_ble_eq_true rfl, allOne_of rfl⟩ | exact p1 | exact p2 | exact p3 | exact p4)
     | (apply Exists.intro; apply And.intro; · first | exact rfl | exact c1 | exact c2)
     | refine VLoop.unroll hE mixed ?_
     | fail
  all_goals (conv => whnf)
  all_goals clear c1 c2 p1 p2 p3 p4
  all_goals (show V.bool _ = V.bool _; congr 1; simp_all)
def lightB (p q : List (Int × Int)) : Bool := decide (p.length ≤ 60) && decide (q.length ≤ 60)
theorem lightB_ok (n a b : Int) (p q : List (Int × Int)) : PTriple Try.prog gv 43 [cellV n a b p q] (.bool (lightB p q)) := by
  have p1 := pure_R p
  have p2 := pure_R q
  have lp := lenR p
  have lq := lenR q
  refine PTriple.of_body (C := cx) Try.func43 rfl (by kernel_rfl) mixed fun E hE => ?_
  repeat' (conv => whnf); first
   | (refine bcase_of (fun hr => ?_) (fun hr => ?_) <;> try (exfalso; simp at hr; done))
   | (apply And.intro; · first | exact Nat.le_of_ble_eq_true rfl | (show indep _ _ = true; kernel_rfl) | decide | exact ⟨by decide, by decide⟩ | exact ⟨Nat.le_of_ble_eq_true rfl, allOne_of rfl⟩ | exact p1 | exact p2)
   | (apply Exists.intro; apply And.intro; · first | exact rfl)
   | refine VLoop.unroll hE mixed ?_
   | fail
  all_goals (conv => whnf)
  all_goals rw [lp, lq] at hr
  · have h3 : decide ((if (q.length : Int) > (if (p.length : Int) > 0 then (p.length : Int) else 0) then (q.length : Int) else (if (p.length : Int) > 0 then (p.length : Int) else 0)) ≤ 60) = true := hr
    simp only [decide_eq_true_eq] at h3
    show V.bool true = V.bool (lightB p q)
    congr 1; symm
    simp only [lightB, Bool.and_eq_true, decide_eq_true_eq]
    split at h3 <;> split at h3 <;> omega
  · have h3 : decide ((if (q.length : Int) > (if (p.length : Int) > 0 then (p.length : Int) else 0) then (q.length : Int) else (if (p.length : Int) > 0 then (p.length : Int) else 0)) ≤ 60) = false := hr
    simp only [decide_eq_false_iff_not] at h3
    show V.bool false = V.bool (lightB p q)
    congr 1; symm
    rw [Bool.eq_false_iff]
    simp only [lightB, ne_eq, Bool.and_eq_true, decide_eq_true_eq]
    intro hc
    split at h3 <;> split at h3 <;> omega
def lightL (l : List En) : Bool := decide (l.length ≤ 20) && l.all fun e => lightB e.p e.q
def stLi (l : List En) (i : Nat) : St DV := mkSt 20 [(0, chV l), (3, i64V i)] [] []
theorem lightL_ok (l : List En) : PTriple Try.prog gv 19 [chV l] (.bool (lightL l)) := by
  have pl := pure_E l
  have ll := lenE l
  by_cases hlen : l.length ≤ 20
  case neg =>
    have hd : lightL l = false := by simp [lightL, hlen]
    rw [hd]
    refine PTriple.of_body (C := cx) Try.func19 rfl (by kernel_rfl) mixed fun E hE => ?_
    repeat' (conv => whnf); first
     | (refine bcase_of (fun hr => ?_) (fun hr => ?_) <;> (try simp at hr) <;> try omega)
     | (apply And.intro; · first | exact Nat.le_of_ble_eq_true rfl | (show indep _ _ = true; kernel_rfl) | decide | exact ⟨by decide, by decide⟩ | exact ⟨Nat.le_of_ble_eq_true rfl, allOne_of rfl⟩)
     | (apply Exists.intro; apply And.intro; · first | exact rfl)
     | fail
    all_goals (conv => whnf)
    all_goals rfl
  case pos =>
    refine PTriple.of_body (C := cx) Try.func19 rfl (by kernel_rfl) mixed fun E hE => ?_
    repeat' (conv => whnf); first
     | (refine bcase_of (fun hr => ?_) (fun hr => ?_) <;> (try simp at hr) <;> try omega)
     | (apply And.intro; · first | exact Nat.le_of_ble_eq_true rfl | (show indep _ _ = true; kernel_rfl) | decide | exact ⟨by decide, by decide⟩ | exact ⟨Nat.le_of_ble_eq_true rfl, allOne_of rfl⟩)
     | (apply Exists.intro; apply And.intro; · first | exact rfl)
     | fail
    all_goals (conv => whnf)
    refine VLoop.norm [0, 3] [] ?_
    repeat' (conv => whnf); first
     | (apply And.intro; · first | exact Nat.le_of_ble_eq_true rfl | (show indep _ _ = true; kernel_rfl) | decide | exact pl)
     | (apply Exists.intro; apply And.intro; · first | exact rfl)
     | fail
    refine VLoop.inv (fun i : Nat => stLi l i) (fun i => i ≤ l.length ∧ (l.take i).all (fun e => lightB e.p e.q) = true) (fun i => l.length - i) 0 ⟨Nat.zero_le _, by simp⟩ rfl ?_
    intro i hi ih
    have hw : IntKind.i64.wrap ((i : Int) + 1) = ((i + 1 : Nat) : Int) := wrap64 (by omega) (by omega)
    refine VLoop.unroll hE mixed ?_
    by_cases hgo : i < l.length
    case neg =>
      have hd : lightL l = true := by
        have := hi.2
        rw [List.take_of_length_le (by omega)] at this
        simp [lightL, hlen, this]
      rw [hd]
      repeat' (conv => whnf); first
       | (refine bcase_of (fun hr => ?_) (fun hr => ?_) <;> (try simp at hr) <;> try omega)
       | (apply And.intro; · first | exact Nat.le_of_ble_eq_true rfl | (show indep _ _ = true; kernel_rfl) | decide | exact ⟨by decide, by decide⟩ | exact ⟨Nat.le_of_ble_eq_true rfl, allOne_of rfl⟩)
       | (apply Exists.intro; apply And.intro; · first | exact rfl)
       | fail
      all_goals (conv => whnf)
      all_goals rfl
    case pos =>
      obtain ⟨x, hx⟩ : ∃ x, l[i]? = some x := ⟨_, List.getElem?_eq_getElem hgo⟩
      have gx := getE hx
      have c1 := lightB_ok x.n x.a x.b x.p x.q
      have px := pure_R x.p
      have pq := pure_R x.q
      cases hb : lightB x.p x.q with
      | false =>
        rw [hb] at c1
        have hd : lightL l = false := by
          have : ¬ (l.all fun e => lightB e.p e.q) = true := fun h => by
            have := List.all_eq_true.1 h x (List.mem_of_getElem? hx)
            rw [hb] at this; cases this
          simp only [lightL, Bool.eq_false_iff.2 this, Bool.and_false]
        rw [hd]
        repeat' (conv => whnf); first
         | (refine bcase_of (fun hr => ?_) (fun hr => ?_) <;> (try simp at hr) <;> try omega)
         | (apply And.intro; · first | exact Nat.le_of_ble_eq_true rfl | (show indep _ _ = true; kernel_rfl) | decide | exact ⟨by omega, by omega⟩ | exact px | exact pq | exact ⟨by decide, by decide⟩ | exact ⟨Nat.le_of_ble_eq_true rfl, allOne_of rfl⟩)
         | (apply Exists.intro; apply And.intro; · first | exact rfl | exact c1 | exact gx)
         | fail
        all_goals (conv => whnf)
        all_goals rfl
      | true =>
        rw [hb] at c1
        repeat' (conv => whnf); first
         | (refine bcase_of (fun hr => ?_) (fun hr => ?_) <;> (try simp at hr) <;> try omega)
         | (apply And.intro; · first | exact Nat.le_of_ble_eq_true rfl | (show indep _ _ = true; kernel_rfl) | decide | exact ⟨by omega, by omega⟩ | exact px | exact pq | exact ⟨by decide, by decide⟩ | exact ⟨Nat.le_of_ble_eq_true rfl, allOne_of rfl⟩)
         | (apply Exists.intro; apply And.intro; · first | exact rfl | exact c1 | exact gx)
         | fail
        all_goals (conv => whnf)
        refine VLoop.norm [0, 3] [] ?_
        repeat' (conv => whnf); first
         | (apply And.intro; · first | exact Nat.le_of_ble_eq_true rfl | (show indep _ _ = true; kernel_rfl) | decide | exact pl)
         | (apply Exists.intro; apply And.intro; · first | exact rfl)
         | fail
        rw [hw]
        refine ih (i + 1) ⟨hgo, ?_⟩ (by omega)
        rw [List.take_add_one, List.all_append, hi.2, hx]
        simp [hb]
theorem mod24_ok (n : Int) : PTriple Try.prog gv 20 [i64V n, i64V 24] (i64V (n % 24)) := by
  have h1 : n.tmod 24 = if 0 ≤ n ∨ n % 24 = 0 then n % 24 else n % 24 - 24 := by
    rw [Int.tmod_eq_emod]; split <;> split <;> omega
  by_cases hn : n.tmod 24 < 0
  all_goals refine PTriple.of_body (C := cx) Try.func20 rfl (by kernel_rfl) mixed fun E hE => ?_
  · skip
    repeat' (conv => whnf); first
     | (refine bcase_of (fun hr => ?_) (fun hr => ?_) <;> (try simp only [decide_eq_true_eq, decide_eq_false_iff_not] at hr) <;> try (exfalso; omega))
     | (apply And.intro; · first | exact Nat.le_of_ble_eq_true rfl | (show indep _ _ = true; kernel_rfl) | decide | exact ⟨by decide, by decide⟩ | exact ⟨Nat.le_of_ble_eq_true rfl, allOne_of rfl⟩)
     | (apply Exists.intro; apply And.intro; · first | exact rfl)
     | fail
    all_goals (conv => whnf)
    show i64V _ = i64V _
    congr 1
    rw [wrap64 (by omega) (by omega)]; omega
  · skip
    repeat' (conv => whnf); first
     | (refine bcase_of (fun hr => ?_) (fun hr => ?_) <;> (try simp only [decide_eq_true_eq, decide_eq_false_iff_not] at hr) <;> try (exfalso; omega))
     | (apply And.intro; · first | exact Nat.le_of_ble_eq_true rfl | (show indep _ _ = true; kernel_rfl) | decide | exact ⟨by decide, by decide⟩ | exact ⟨Nat.le_of_ble_eq_true rfl, allOne_of rfl⟩)
     | (apply Exists.intro; apply And.intro; · first | exact rfl)
     | fail
    all_goals (conv => whnf)
    show i64V _ = i64V _
    congr 1
    omega
end Go.Proofs.Ytbppemcdphgknaa
