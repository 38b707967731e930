/- G3: merged. -/
import Derived.Test.YtbppemcdphgknaaDoorG2
set_option linter.unusedVariables false
set_option linter.unusedSimpArgs false
/- Chapter 13: zero cells, what may be. -/
namespace Go.Proofs.YtbppemcdphgknaaDoor
open Go Go.Vm
set_option maxRecDepth 100000
set_option maxHeartbeats 40000000
set_option linter.unusedSimpArgs false
set_option linter.unusedVariables false
def zeroC (n a b : Int) (p q : RL) : Bool := decide (n = 0 ∧ a = 0 ∧ b = 0 ∧ p = [] ∧ q = [])
theorem zeroC_iff {n a b : Int} {p q : RL} : zeroC n a b p q = true ↔ n = 0 ∧ a = 0 ∧ b = 0 ∧ p.length = 0 ∧ q.length = 0 := by
  unfold zeroC
  rw [decide_eq_true_eq, nil_len (q := p), nil_len (q := q)]
theorem zero9_ok (n a b : Int) (p q : RL) : PTriple Tryd.prog gv 47 [cellV n a b p q] (.bool (zeroC n a b p q)) := by
  have pP := pure_R p
  have pQ := pure_R q
  have lP := lenR p
  have lQ := lenR q
  have hz := @zeroC_iff n a b p q
  cases hH : zeroC n a b p q with
  | true =>
    rw [hH] at hz
    obtain ⟨h1, h2, h3, h4, h5⟩ := hz.1 rfl
    refine PTriple.of_body (C := cx) Tryd.func47 rfl (by kernel_rfl) mixed fun E hE => ?_
    repeat' (conv => whnf); first
     | (refine bcase_of (fun hr => ?_) (fun hr => ?_) <;> (try simp only [decide_eq_true_eq, decide_eq_false_iff_not, beq_iff_eq, beq_eq_false_iff_ne, ne_eq, bne_iff_ne, bne_eq_false_iff_eq, Bool.not_eq_true, ge_iff_le, gt_iff_lt] at hr) <;> try (exfalso; first | omega | exact hr rfl | (simp at hr; done) | (simp at hr; omega) | (simp [hne] at hr; done) | (simp at hr; exact hxy (Prod.ext hr.1 hr.2)) | (simp at hr; exact h2 hr) | (simp_all; done)))
     | (apply And.intro; · first | exact Nat.le_of_ble_eq_true rfl | (show indep _ _ = true; kernel_rfl) | decide | exact ⟨by decide, by decide⟩ | exact ⟨Nat.le_of_ble_eq_true rfl, allOne_of rfl⟩ | exact allOne_of rfl | exact ⟨by omega, by omega⟩)
     | (apply Exists.intro; apply And.intro; · first | exact rfl)
     | fail
    all_goals (conv => whnf)
    all_goals refine VLoop.unroll hE mixed ?_
    repeat' (conv => whnf); first
     | (refine bcase_of (fun hr => ?_) (fun hr => ?_) <;> (try simp only [decide_eq_true_eq, decide_eq_false_iff_not, beq_iff_eq, beq_eq_false_iff_ne, ne_eq, bne_iff_ne, bne_eq_false_iff_eq, Bool.not_eq_true, ge_iff_le, gt_iff_lt] at hr) <;> try (exfalso; first | omega | exact hr rfl | (simp at hr; done) | (simp at hr; omega) | (simp [hne] at hr; done) | (simp at hr; exact hxy (Prod.ext hr.1 hr.2)) | (simp at hr; exact h2 hr) | (simp_all; done)))
     | (apply And.intro; · first | exact Nat.le_of_ble_eq_true rfl | (show indep _ _ = true; kernel_rfl) | decide | exact ⟨by decide, by decide⟩ | exact ⟨Nat.le_of_ble_eq_true rfl, allOne_of rfl⟩ | exact allOne_of rfl | exact ⟨by omega, by omega⟩)
     | (apply Exists.intro; apply And.intro; · first | exact rfl)
     | fail
    all_goals (conv => whnf)
    all_goals refine VLoop.unroll hE mixed ?_
    repeat' (conv => whnf); first
     | (refine bcase_of (fun hr => ?_) (fun hr => ?_) <;> (try simp only [decide_eq_true_eq, decide_eq_false_iff_not, beq_iff_eq, beq_eq_false_iff_ne, ne_eq, bne_iff_ne, bne_eq_false_iff_eq, Bool.not_eq_true, ge_iff_le, gt_iff_lt] at hr) <;> try (exfalso; first | omega | exact hr rfl | (simp at hr; done) | (simp at hr; omega) | (simp [hne] at hr; done) | (simp at hr; exact hxy (Prod.ext hr.1 hr.2)) | (simp at hr; exact h2 hr) | (simp_all; done)))
     | (apply And.intro; · first | exact Nat.le_of_ble_eq_true rfl | (show indep _ _ = true; kernel_rfl) | decide | exact ⟨by decide, by decide⟩ | exact ⟨Nat.le_of_ble_eq_true rfl, allOne_of rfl⟩ | exact allOne_of rfl | exact ⟨by omega, by omega⟩)
     | (apply Exists.intro; apply And.intro; · first | exact rfl)
     | fail
    all_goals (conv => whnf)
    all_goals refine VLoop.unroll hE mixed ?_
    repeat' (conv => whnf); first
     | (refine bcase_of (fun hr => ?_) (fun hr => ?_) <;> (try simp only [decide_eq_true_eq, decide_eq_false_iff_not, beq_iff_eq, beq_eq_false_iff_ne, ne_eq, bne_iff_ne, bne_eq_false_iff_eq, Bool.not_eq_true, ge_iff_le, gt_iff_lt] at hr) <;> try (exfalso; first | omega | exact hr rfl | (simp at hr; done) | (simp at hr; omega) | (simp [hne] at hr; done) | (simp at hr; exact hxy (Prod.ext hr.1 hr.2)) | (simp at hr; exact h2 hr) | (simp_all; done)))
     | (apply And.intro; · first | exact Nat.le_of_ble_eq_true rfl | (show indep _ _ = true; kernel_rfl) | decide | exact ⟨by decide, by decide⟩ | exact ⟨Nat.le_of_ble_eq_true rfl, allOne_of rfl⟩ | exact allOne_of rfl | exact ⟨by omega, by omega⟩)
     | (apply Exists.intro; apply And.intro; · first | exact rfl)
     | fail
    all_goals (conv => whnf)
    all_goals first | rfl | (exfalso; omega)
  | false =>
    rw [hH] at hz
    have hn : ¬ (n = 0 ∧ a = 0 ∧ b = 0 ∧ p.length = 0 ∧ q.length = 0) := fun h => by have := hz.2 h; cases this
    refine PTriple.of_body (C := cx) Tryd.func47 rfl (by kernel_rfl) mixed fun E hE => ?_
    by_cases h1 : n = 0
    · by_cases h2 : a = 0 ∧ p.length = 0
      · skip
        repeat' (conv => whnf); first
         | (refine bcase_of (fun hr => ?_) (fun hr => ?_) <;> (try simp only [decide_eq_true_eq, decide_eq_false_iff_not, beq_iff_eq, beq_eq_false_iff_ne, ne_eq, bne_iff_ne, bne_eq_false_iff_eq, Bool.not_eq_true, ge_iff_le, gt_iff_lt] at hr) <;> try (exfalso; first | omega | exact hr rfl | (simp at hr; done) | (simp at hr; omega) | (simp [hne] at hr; done) | (simp at hr; exact hxy (Prod.ext hr.1 hr.2)) | (simp at hr; exact h2 hr) | (simp_all; done)))
         | (apply And.intro; · first | exact Nat.le_of_ble_eq_true rfl | (show indep _ _ = true; kernel_rfl) | decide | exact ⟨by decide, by decide⟩ | exact ⟨Nat.le_of_ble_eq_true rfl, allOne_of rfl⟩ | exact allOne_of rfl | exact ⟨by omega, by omega⟩)
         | (apply Exists.intro; apply And.intro; · first | exact rfl)
         | fail
        all_goals (conv => whnf)
        all_goals refine VLoop.unroll hE mixed ?_
        repeat' (conv => whnf); first
         | (refine bcase_of (fun hr => ?_) (fun hr => ?_) <;> (try simp only [decide_eq_true_eq, decide_eq_false_iff_not, beq_iff_eq, beq_eq_false_iff_ne, ne_eq, bne_iff_ne, bne_eq_false_iff_eq, Bool.not_eq_true, ge_iff_le, gt_iff_lt] at hr) <;> try (exfalso; first | omega | exact hr rfl | (simp at hr; done) | (simp at hr; omega) | (simp [hne] at hr; done) | (simp at hr; exact hxy (Prod.ext hr.1 hr.2)) | (simp at hr; exact h2 hr) | (simp_all; done)))
         | (apply And.intro; · first | exact Nat.le_of_ble_eq_true rfl | (show indep _ _ = true; kernel_rfl) | decide | exact ⟨by decide, by decide⟩ | exact ⟨Nat.le_of_ble_eq_true rfl, allOne_of rfl⟩ | exact allOne_of rfl | exact ⟨by omega, by omega⟩)
         | (apply Exists.intro; apply And.intro; · first | exact rfl)
         | fail
        all_goals (conv => whnf)
        all_goals refine VLoop.unroll hE mixed ?_
        repeat' (conv => whnf); first
         | (refine bcase_of (fun hr => ?_) (fun hr => ?_) <;> (try simp only [decide_eq_true_eq, decide_eq_false_iff_not, beq_iff_eq, beq_eq_false_iff_ne, ne_eq, bne_iff_ne, bne_eq_false_iff_eq, Bool.not_eq_true, ge_iff_le, gt_iff_lt] at hr) <;> try (exfalso; first | omega | exact hr rfl | (simp at hr; done) | (simp at hr; omega) | (simp [hne] at hr; done) | (simp at hr; exact hxy (Prod.ext hr.1 hr.2)) | (simp at hr; exact h2 hr) | (simp_all; done)))
         | (apply And.intro; · first | exact Nat.le_of_ble_eq_true rfl | (show indep _ _ = true; kernel_rfl) | decide | exact ⟨by decide, by decide⟩ | exact ⟨Nat.le_of_ble_eq_true rfl, allOne_of rfl⟩ | exact allOne_of rfl | exact ⟨by omega, by omega⟩)
         | (apply Exists.intro; apply And.intro; · first | exact rfl)
         | fail
        all_goals (conv => whnf)
        all_goals first | rfl | (exfalso; omega)
      · skip
        repeat' (conv => whnf); first
         | (refine bcase_of (fun hr => ?_) (fun hr => ?_) <;> (try simp only [decide_eq_true_eq, decide_eq_false_iff_not, beq_iff_eq, beq_eq_false_iff_ne, ne_eq, bne_iff_ne, bne_eq_false_iff_eq, Bool.not_eq_true, ge_iff_le, gt_iff_lt] at hr) <;> try (exfalso; first | omega | exact hr rfl | (simp at hr; done) | (simp at hr; omega) | (simp [hne] at hr; done) | (simp at hr; exact hxy (Prod.ext hr.1 hr.2)) | (simp at hr; exact h2 hr) | (simp_all; done)))
         | (apply And.intro; · first | exact Nat.le_of_ble_eq_true rfl | (show indep _ _ = true; kernel_rfl) | decide | exact ⟨by decide, by decide⟩ | exact ⟨Nat.le_of_ble_eq_true rfl, allOne_of rfl⟩ | exact allOne_of rfl | exact ⟨by omega, by omega⟩)
         | (apply Exists.intro; apply And.intro; · first | exact rfl)
         | fail
        all_goals (conv => whnf)
        all_goals refine VLoop.unroll hE mixed ?_
        repeat' (conv => whnf); first
         | (refine bcase_of (fun hr => ?_) (fun hr => ?_) <;> (try simp only [decide_eq_true_eq, decide_eq_false_iff_not, beq_iff_eq, beq_eq_false_iff_ne, ne_eq, bne_iff_ne, bne_eq_false_iff_eq, Bool.not_eq_true, ge_iff_le, gt_iff_lt] at hr) <;> try (exfalso; first | omega | exact hr rfl | (simp at hr; done) | (simp at hr; omega) | (simp [hne] at hr; done) | (simp at hr; exact hxy (Prod.ext hr.1 hr.2)) | (simp at hr; exact h2 hr) | (simp_all; done)))
         | (apply And.intro; · first | exact Nat.le_of_ble_eq_true rfl | (show indep _ _ = true; kernel_rfl) | decide | exact ⟨by decide, by decide⟩ | exact ⟨Nat.le_of_ble_eq_true rfl, allOne_of rfl⟩ | exact allOne_of rfl | exact ⟨by omega, by omega⟩)
         | (apply Exists.intro; apply And.intro; · first | exact rfl)
         | fail
        all_goals (conv => whnf)
        all_goals first | rfl | (exfalso; omega)
    · skip
      repeat' (conv => whnf); first
       | (refine bcase_of (fun hr => ?_) (fun hr => ?_) <;> (try simp only [decide_eq_true_eq, decide_eq_false_iff_not, beq_iff_eq, beq_eq_false_iff_ne, ne_eq, bne_iff_ne, bne_eq_false_iff_eq, Bool.not_eq_true, ge_iff_le, gt_iff_lt] at hr) <;> try (exfalso; first | omega | exact hr rfl | (simp at hr; done) | (simp at hr; omega) | (simp [hne] at hr; done) | (simp at hr; exact hxy (Prod.ext hr.1 hr.2)) | (simp at hr; exact h2 hr) | (simp_all; done)))
       | (apply And.intro; · first | exact Nat.le_of_ble_eq_true rfl | (show indep _ _ = true; kernel_rfl) | decide | exact ⟨by decide, by decide⟩ | exact ⟨Nat.le_of_ble_eq_true rfl, allOne_of rfl⟩ | exact allOne_of rfl | exact ⟨by omega, by omega⟩)
       | (apply Exists.intro; apply And.intro; · first | exact rfl)
       | fail
      all_goals (conv => whnf)
      all_goals first | rfl | (exfalso; omega)
def mayC (m : Int) (i : Bool) (n a b : Int) (p q : RL) : Bool := if i then goodC m n a b p q else zeroC n a b p q
theorem may_ok (m n a b : Int) (p q : RL) (i : Bool) (hp : p.length ≤ 100000) (hq : q.length ≤ 100000) (h6p : RIn p) (h6q : RIn q) (ha : in64 a) (hb : in64 b) : PTriple Tryd.prog gv 42 [i64V m, cellV n a b p q, .bool i] (.bool (mayC m i n a b p q)) := by
  have pP := pure_R p
  have pQ := pure_R q
  cases i with
  | true =>
    have c := cellGood_ok m n a b p q hp hq h6p h6q ha hb
    show PTriple Tryd.prog gv 42 _ (.bool (goodC m n a b p q))
    generalize goodC m n a b p q = H at c
    refine PTriple.of_body (C := cx) Tryd.func42 rfl (by kernel_rfl) mixed fun E hE => ?_
    repeat' (conv => whnf); first
     | (refine bcase_of (fun hr => ?_) (fun hr => ?_) <;> (try simp only [decide_eq_true_eq, decide_eq_false_iff_not, beq_iff_eq, beq_eq_false_iff_ne, ne_eq, bne_iff_ne, bne_eq_false_iff_eq, Bool.not_eq_true, ge_iff_le, gt_iff_lt] at hr) <;> try (exfalso; first | omega | exact hr rfl | (simp at hr; done) | (simp at hr; omega)))
     | (apply And.intro; · first | exact Nat.le_of_ble_eq_true rfl | (show indep _ _ = true; kernel_rfl) | decide | exact ⟨by decide, by decide⟩ | exact ⟨Nat.le_of_ble_eq_true rfl, allOne_of rfl⟩ | exact allOne_of rfl | exact ⟨by omega, by omega⟩ | exact pP | exact pQ)
     | (apply Exists.intro; apply And.intro; · first | exact rfl | exact c)
     | fail
    all_goals (conv => whnf)
    all_goals first | rfl | (subst hr; rfl)
  | false =>
    have c := (cellSame_ok n a b 0 0 0 p q [] [] hp hq (by simp) (by simp)).zarg (.same (v := cellV n a b p q) (.zero .nil))
    show PTriple Tryd.prog gv 42 _ (.bool (zeroC n a b p q))
    have e : decide (n = 0 ∧ a = 0 ∧ b = 0 ∧ p = [] ∧ q = []) = zeroC n a b p q := rfl
    rw [e] at c
    generalize zeroC n a b p q = H at c
    refine PTriple.of_body (C := cx) Tryd.func42 rfl (by kernel_rfl) mixed fun E hE => ?_
    repeat' (conv => whnf); first
     | (refine bcase_of (fun hr => ?_) (fun hr => ?_) <;> (try simp only [decide_eq_true_eq, decide_eq_false_iff_not, beq_iff_eq, beq_eq_false_iff_ne, ne_eq, bne_iff_ne, bne_eq_false_iff_eq, Bool.not_eq_true, ge_iff_le, gt_iff_lt] at hr) <;> try (exfalso; first | omega | exact hr rfl | (simp at hr; done) | (simp at hr; omega)))
     | (apply And.intro; · first | exact Nat.le_of_ble_eq_true rfl | (show indep _ _ = true; kernel_rfl) | decide | exact ⟨by decide, by decide⟩ | exact ⟨Nat.le_of_ble_eq_true rfl, allOne_of rfl⟩ | exact allOne_of rfl | exact ⟨by omega, by omega⟩ | exact pP | exact pQ)
     | (apply Exists.intro; apply And.intro; · first | exact rfl | exact c)
     | fail
    all_goals (conv => whnf)
    all_goals first | rfl | (subst hr; rfl)
end Go.Proofs.YtbppemcdphgknaaDoor
/- Chapter 13: may a chain be. -/
namespace Go.Proofs.YtbppemcdphgknaaDoor
open Go Go.Vm
set_option maxRecDepth 100000
set_option maxHeartbeats 40000000
set_option linter.unusedSimpArgs false
set_option linter.unusedVariables false
def mayE (m : Int) (e : En) : Bool := mayC m (is e.o) e.n e.a e.b e.p e.q
/-- The chain from an entry on: is it the first one; the version and whether it was there ahead. -/
def gch (m : Int) : Bool → Int → Bool → List En → Bool
  | _, _, _, [] => true
  | first, ver, prev, e :: r => decide (ver < e.v) && known e.o && mayE m e && (if first then decide (e.o ≠ 3) else (was e.o == prev)) && gch m false e.v (is e.o) r
def goodL (m : Int) (l : List En) : Bool := decide (1 ≤ m) && decide (m ≤ 2) && gch m true 0 false l
structure EnIn (e : En) : Prop where
  lp : e.p.length ≤ 100000
  lq : e.q.length ≤ 100000
  rp : RIn e.p
  rq : RIn e.q
  a64 : in64 e.a
  b64 : in64 e.b
def stGd (m : Int) (l : List En) (ver : Int) (prev : Bool) (i : Nat) : St DV := mkSt 66 [(0, i64V m), (1, chV l), (5, i64V ver), (6, .bool prev), (15, chV l), (16, i64V l.length), (17, i64V i)] [] []
def stG13 (m : Int) (l : List En) (prev : Bool) (i : Nat) : St DV := mkSt 91 [(0, i64V m), (1, chV l), (5, .bool prev), (6, i64V i)] [] []
structure ZG where
  i : Nat
  ver : Int
  prev : Bool
theorem getEc {l : List En} {i : Nat} {e : En} (h : l[i]? = some e) : lget (l.map encE) ((i : Int).toNat) = some [i64V e.v, i64V e.o, i64V e.n, i64V e.a, i64V e.b, bagV e.p, bagV e.q] := getE h
theorem goodL_ok (m : Int) (l : List En) (hl : l.length ≤ 1000000) (hin : ∀ e ∈ l, EnIn e) : PTriple Tryd.prog gv 13 [i64V m, chV l] (.bool (goodL m l)) := by
  have pL := pure_E l
  have lL := lenE l
  generalize hH : goodL m l = H
  unfold goodL at hH
  by_cases hm : 1 ≤ m ∧ m ≤ 2
  case neg =>
    have e : (decide (1 ≤ m) && decide (m ≤ 2)) = false := by simp; omega
    rw [e] at hH
    obtain rfl : H = false := hH.symm
    refine PTriple.of_body (C := cx) Tryd.func13 rfl (by kernel_rfl) mixed fun E hE => ?_
    repeat' (conv => whnf); first
     | (refine bcase_of (fun hr => ?_) (fun hr => ?_) <;> (try simp only [decide_eq_true_eq, decide_eq_false_iff_not, beq_iff_eq, beq_eq_false_iff_ne, ne_eq, bne_iff_ne, bne_eq_false_iff_eq, Bool.not_eq_true, ge_iff_le, gt_iff_lt] at hr) <;> try (exfalso; first | omega | exact hr rfl | (simp at hr; done) | (simp at hr; omega)))
     | (apply And.intro; · first | exact Nat.le_of_ble_eq_true rfl | (show indep _ _ = true; kernel_rfl) | decide | exact ⟨by decide, by decide⟩ | exact ⟨Nat.le_of_ble_eq_true rfl, allOne_of rfl⟩ | exact allOne_of rfl | exact ⟨by omega, by omega⟩)
     | (apply Exists.intro; apply And.intro; · first | exact rfl)
     | fail
    all_goals (conv => whnf)
    all_goals rfl
  case pos =>
  rw [decide_eq_true hm.1, decide_eq_true hm.2, Bool.true_and, Bool.true_and] at hH
  refine PTriple.of_body (C := cx) Tryd.func13 rfl (by kernel_rfl) mixed fun E hE => ?_
  repeat' (conv => whnf); first
   | (refine bcase_of (fun hr => ?_) (fun hr => ?_) <;> (try simp only [decide_eq_true_eq, decide_eq_false_iff_not, beq_iff_eq, beq_eq_false_iff_ne, ne_eq, bne_iff_ne, bne_eq_false_iff_eq, Bool.not_eq_true, ge_iff_le, gt_iff_lt] at hr) <;> try (exfalso; first | omega | exact hr rfl | (simp at hr; done) | (simp at hr; omega)))
   | (apply And.intro; · first | exact Nat.le_of_ble_eq_true rfl | (show indep _ _ = true; kernel_rfl) | decide | exact ⟨by decide, by decide⟩ | exact ⟨Nat.le_of_ble_eq_true rfl, allOne_of rfl⟩ | exact allOne_of rfl | exact ⟨by omega, by omega⟩)
   | (apply Exists.intro; apply And.intro; · first | exact rfl)
   | fail
  all_goals (conv => whnf)
  refine VLoop.norm [0, 1, 5, 6, 15, 16, 17] [] ?_
  repeat' (conv => whnf); first
   | (apply And.intro; · first | exact Nat.le_of_ble_eq_true rfl | (show indep _ _ = true; kernel_rfl) | decide | exact pL)
   | (apply Exists.intro; apply And.intro; · first | exact rfl)
   | fail
  refine VLoop.inv (fun z : ZG => stGd m l z.ver z.prev z.i) (fun z => z.i ≤ l.length ∧ 0 ≤ z.ver ∧ (0 < z.i → 1 ≤ z.ver ∧ ∃ e, l[z.i - 1]? = some e ∧ e.v = z.ver) ∧ (z.i = 0 → z.ver = 0) ∧ gch m (decide (z.i = 0)) z.ver z.prev (l.drop z.i) = H) (fun z => l.length - z.i) ⟨0, 0, false⟩ ⟨Nat.zero_le _, Int.le_refl _, fun h => absurd h (Nat.lt_irrefl _), fun _ => rfl, hH⟩ (by unfold stGd; rw [← lL]; rfl) ?_
  clear hH
  rintro ⟨i, ver, prev⟩ ⟨hi, hv0, hv1, hv2, hg⟩ ih
  simp only at hi hv0 hv1 hv2 hg ih
  show VLoop cx E _ (stGd m l ver prev i) _
  by_cases hgo : i < l.length
  case neg =>
    rw [List.drop_eq_nil_of_le (by omega)] at hg
    obtain rfl : H = true := by rw [← hg]; cases decide (i = 0) <;> rfl
    refine VLoop.unroll hE mixed ?_
    repeat' (conv => whnf); first
     | (refine bcase_of (fun hr => ?_) (fun hr => ?_) <;> (try simp only [decide_eq_true_eq, decide_eq_false_iff_not, beq_iff_eq, beq_eq_false_iff_ne, ne_eq, bne_iff_ne, bne_eq_false_iff_eq, Bool.not_eq_true, ge_iff_le, gt_iff_lt] at hr) <;> try (exfalso; first | omega | exact hr rfl | (simp at hr; done) | (simp at hr; omega)))
     | (apply And.intro; · first | exact Nat.le_of_ble_eq_true rfl | (show indep _ _ = true; kernel_rfl) | decide | exact ⟨by decide, by decide⟩ | exact ⟨Nat.le_of_ble_eq_true rfl, allOne_of rfl⟩ | exact allOne_of rfl | exact ⟨by omega, by omega⟩)
     | (apply Exists.intro; apply And.intro; · first | exact rfl)
     | fail
    all_goals (conv => whnf)
    all_goals rfl
  case pos =>
  have hw : IntKind.i64.wrap ((i : Int) + 1) = ((i + 1 : Nat) : Int) := wrap64 (by omega) (by omega)
  obtain ⟨e, hx⟩ : ∃ x, l[i]? = some x := ⟨_, List.getElem?_eq_getElem hgo⟩
  have gi := getEc hx
  obtain ⟨h1, h2, h3, h4, h5, h6⟩ := hin e (List.mem_of_getElem? hx)
  have pp := pure_R e.p
  have pq := pure_R e.q
  rw [drop_get hx] at hg
  simp only [gch] at hg
  have cK := ok41 e.o
  have cI := ok43 e.o
  have cW := ok44 e.o
  have cY := may_ok m e.n e.a e.b e.p e.q (is e.o) h1 h2 h3 h4 h5 h6
  have eY : mayC m (is e.o) e.n e.a e.b e.p e.q = mayE m e := rfl
  rw [eY] at cY
  generalize mayE m e = Y at cY hg
  generalize known e.o = K at cK hg
  generalize is e.o = I at cI cY hg
  generalize was e.o = W at cW hg
  by_cases hver : ver < e.v
  case neg =>
    rw [decide_eq_false hver] at hg
    simp only [Bool.false_and] at hg
    subst hg
    refine VLoop.unroll hE mixed ?_
    repeat' (conv => whnf); first
     | (refine bcase_of (fun hr => ?_) (fun hr => ?_) <;> (try simp only [decide_eq_true_eq, decide_eq_false_iff_not, beq_iff_eq, beq_eq_false_iff_ne, ne_eq, bne_iff_ne, bne_eq_false_iff_eq, Bool.not_eq_true, ge_iff_le, gt_iff_lt] at hr) <;> try (exfalso; first | omega | exact hr rfl | (simp at hr; done) | (simp_all; done) | (simp at hr; omega)))
     | (apply And.intro; · first | exact Nat.le_of_ble_eq_true rfl | (show indep _ _ = true; kernel_rfl) | decide | exact ⟨by decide, by decide⟩ | exact ⟨Nat.le_of_ble_eq_true rfl, allOne_of rfl⟩ | exact allOne_of rfl | exact ⟨by omega, by omega⟩ | exact ⟨by omega, by rw [lL]; omega⟩ | exact pp | exact pq)
     | (apply Exists.intro; apply And.intro; · first | exact rfl | exact cK | exact cI | exact cW | exact cY | exact gi)
     | rw [hw]
     | fail
    all_goals (conv => whnf)
    all_goals rfl
  case pos =>
  rw [decide_eq_true hver] at hg
  cases K with
  | false =>
    simp only [Bool.false_and, Bool.and_false, Bool.true_and] at hg
    subst hg
    refine VLoop.unroll hE mixed ?_
    repeat' (conv => whnf); first
     | (refine bcase_of (fun hr => ?_) (fun hr => ?_) <;> (try simp only [decide_eq_true_eq, decide_eq_false_iff_not, beq_iff_eq, beq_eq_false_iff_ne, ne_eq, bne_iff_ne, bne_eq_false_iff_eq, Bool.not_eq_true, ge_iff_le, gt_iff_lt] at hr) <;> try (exfalso; first | omega | exact hr rfl | (simp at hr; done) | (simp_all; done) | (simp at hr; omega)))
     | (apply And.intro; · first | exact Nat.le_of_ble_eq_true rfl | (show indep _ _ = true; kernel_rfl) | decide | exact ⟨by decide, by decide⟩ | exact ⟨Nat.le_of_ble_eq_true rfl, allOne_of rfl⟩ | exact allOne_of rfl | exact ⟨by omega, by omega⟩ | exact ⟨by omega, by rw [lL]; omega⟩ | exact pp | exact pq)
     | (apply Exists.intro; apply And.intro; · first | exact rfl | exact cK | exact cI | exact cW | exact cY | exact gi)
     | rw [hw]
     | fail
    all_goals (conv => whnf)
    all_goals rfl
  | true =>
    cases Y with
    | false =>
      simp only [Bool.false_and, Bool.and_false, Bool.true_and] at hg
      subst hg
      cases I with
      | true =>
        refine VLoop.unroll hE mixed ?_
        repeat' (conv => whnf); first
         | (refine bcase_of (fun hr => ?_) (fun hr => ?_) <;> (try simp only [decide_eq_true_eq, decide_eq_false_iff_not, beq_iff_eq, beq_eq_false_iff_ne, ne_eq, bne_iff_ne, bne_eq_false_iff_eq, Bool.not_eq_true, ge_iff_le, gt_iff_lt] at hr) <;> try (exfalso; first | omega | exact hr rfl | (simp at hr; done) | (simp_all; done) | (simp at hr; omega)))
         | (apply And.intro; · first | exact Nat.le_of_ble_eq_true rfl | (show indep _ _ = true; kernel_rfl) | decide | exact ⟨by decide, by decide⟩ | exact ⟨Nat.le_of_ble_eq_true rfl, allOne_of rfl⟩ | exact allOne_of rfl | exact ⟨by omega, by omega⟩ | exact ⟨by omega, by rw [lL]; omega⟩ | exact pp | exact pq)
         | (apply Exists.intro; apply And.intro; · first | exact rfl | exact cK | exact cI | exact cW | exact cY | exact gi)
         | rw [hw]
         | fail
        all_goals (conv => whnf)
        all_goals rfl
      | false =>
        refine VLoop.unroll hE mixed ?_
        repeat' (conv => whnf); first
         | (refine bcase_of (fun hr => ?_) (fun hr => ?_) <;> (try simp only [decide_eq_true_eq, decide_eq_false_iff_not, beq_iff_eq, beq_eq_false_iff_ne, ne_eq, bne_iff_ne, bne_eq_false_iff_eq, Bool.not_eq_true, ge_iff_le, gt_iff_lt] at hr) <;> try (exfalso; first | omega | exact hr rfl | (simp at hr; done) | (simp_all; done) | (simp at hr; omega)))
         | (apply And.intro; · first | exact Nat.le_of_ble_eq_true rfl | (show indep _ _ = true; kernel_rfl) | decide | exact ⟨by decide, by decide⟩ | exact ⟨Nat.le_of_ble_eq_true rfl, allOne_of rfl⟩ | exact allOne_of rfl | exact ⟨by omega, by omega⟩ | exact ⟨by omega, by rw [lL]; omega⟩ | exact pp | exact pq)
         | (apply Exists.intro; apply And.intro; · first | exact rfl | exact cK | exact cI | exact cW | exact cY | exact gi)
         | rw [hw]
         | fail
        all_goals (conv => whnf)
        all_goals rfl
    | true =>
      simp only [Bool.true_and] at hg
      by_cases h0 : i = 0
      · subst h0
        have hver0 := hv2 rfl
        simp only [decide_true, if_true] at hg
        by_cases h3' : e.o = 3
        · rw [decide_eq_false (fun h => h h3')] at hg
          simp only [Bool.false_and] at hg
          subst hg
          skip
          cases I with
          | true =>
            refine VLoop.unroll hE mixed ?_
            repeat' (conv => whnf); first
             | (refine bcase_of (fun hr => ?_) (fun hr => ?_) <;> (try simp only [decide_eq_true_eq, decide_eq_false_iff_not, beq_iff_eq, beq_eq_false_iff_ne, ne_eq, bne_iff_ne, bne_eq_false_iff_eq, Bool.not_eq_true, ge_iff_le, gt_iff_lt] at hr) <;> try (exfalso; first | omega | exact hr rfl | (simp at hr; done) | (simp_all; done) | (simp at hr; omega)))
             | (apply And.intro; · first | exact Nat.le_of_ble_eq_true rfl | (show indep _ _ = true; kernel_rfl) | decide | exact ⟨by decide, by decide⟩ | exact ⟨Nat.le_of_ble_eq_true rfl, allOne_of rfl⟩ | exact allOne_of rfl | exact ⟨by omega, by omega⟩ | exact ⟨by omega, by rw [lL]; omega⟩ | exact pp | exact pq)
             | (apply Exists.intro; apply And.intro; · first | exact rfl | exact cK | exact cI | exact cW | exact cY | exact gi)
             | rw [hw]
             | fail
            all_goals (conv => whnf)
            all_goals rfl
          | false =>
            refine VLoop.unroll hE mixed ?_
            repeat' (conv => whnf); first
             | (refine bcase_of (fun hr => ?_) (fun hr => ?_) <;> (try simp only [decide_eq_true_eq, decide_eq_false_iff_not, beq_iff_eq, beq_eq_false_iff_ne, ne_eq, bne_iff_ne, bne_eq_false_iff_eq, Bool.not_eq_true, ge_iff_le, gt_iff_lt] at hr) <;> try (exfalso; first | omega | exact hr rfl | (simp at hr; done) | (simp_all; done) | (simp at hr; omega)))
             | (apply And.intro; · first | exact Nat.le_of_ble_eq_true rfl | (show indep _ _ = true; kernel_rfl) | decide | exact ⟨by decide, by decide⟩ | exact ⟨Nat.le_of_ble_eq_true rfl, allOne_of rfl⟩ | exact allOne_of rfl | exact ⟨by omega, by omega⟩ | exact ⟨by omega, by rw [lL]; omega⟩ | exact pp | exact pq)
             | (apply Exists.intro; apply And.intro; · first | exact rfl | exact cK | exact cI | exact cW | exact cY | exact gi)
             | rw [hw]
             | fail
            all_goals (conv => whnf)
            all_goals rfl
        · rw [decide_eq_true h3', Bool.true_and] at hg
          have hg2 : gch m (decide (0 + 1 = 0)) e.v I (l.drop (0 + 1)) = H := hg
          skip
          cases I with
          | true =>
            have hz1 : 0 ≤ e.v := by omega
            have hz2 : 1 ≤ e.v := by omega
            refine VLoop.unroll hE mixed ?_
            repeat' (conv => whnf); first
             | (refine bcase_of (fun hr => ?_) (fun hr => ?_) <;> (try simp only [decide_eq_true_eq, decide_eq_false_iff_not, beq_iff_eq, beq_eq_false_iff_ne, ne_eq, bne_iff_ne, bne_eq_false_iff_eq, Bool.not_eq_true, ge_iff_le, gt_iff_lt] at hr) <;> try (exfalso; first | omega | exact hr rfl | (simp at hr; done) | (simp_all; done) | (simp at hr; omega)))
             | (apply And.intro; · first | exact Nat.le_of_ble_eq_true rfl | (show indep _ _ = true; kernel_rfl) | decide | exact ⟨by decide, by decide⟩ | exact ⟨Nat.le_of_ble_eq_true rfl, allOne_of rfl⟩ | exact allOne_of rfl | exact ⟨by omega, by omega⟩ | exact ⟨by omega, by rw [lL]; omega⟩ | exact pp | exact pq)
             | (apply Exists.intro; apply And.intro; · first | exact rfl | exact cK | exact cI | exact cW | exact cY | exact gi)
             | rw [hw]
             | fail
            all_goals (conv => whnf)
            all_goals refine VLoop.norm [0, 1, 5, 6, 15, 16, 17] [] ?_
            repeat' (conv => whnf); first
             | (apply And.intro; · first | exact Nat.le_of_ble_eq_true rfl | (show indep _ _ = true; kernel_rfl) | decide | exact pL)
             | (apply Exists.intro; apply And.intro; · first | exact rfl)
             | fail
            all_goals try rw [hw]
            all_goals exact ih ⟨0 + 1, e.v, true⟩ ⟨hgo, hz1, fun _ => ⟨hz2, e, hx, rfl⟩, fun h => absurd h (Nat.succ_ne_zero _), hg2⟩ (by show l.length - (0 + 1) < l.length - 0; omega)
          | false =>
            have hz1 : 0 ≤ e.v := by omega
            have hz2 : 1 ≤ e.v := by omega
            refine VLoop.unroll hE mixed ?_
            repeat' (conv => whnf); first
             | (refine bcase_of (fun hr => ?_) (fun hr => ?_) <;> (try simp only [decide_eq_true_eq, decide_eq_false_iff_not, beq_iff_eq, beq_eq_false_iff_ne, ne_eq, bne_iff_ne, bne_eq_false_iff_eq, Bool.not_eq_true, ge_iff_le, gt_iff_lt] at hr) <;> try (exfalso; first | omega | exact hr rfl | (simp at hr; done) | (simp_all; done) | (simp at hr; omega)))
             | (apply And.intro; · first | exact Nat.le_of_ble_eq_true rfl | (show indep _ _ = true; kernel_rfl) | decide | exact ⟨by decide, by decide⟩ | exact ⟨Nat.le_of_ble_eq_true rfl, allOne_of rfl⟩ | exact allOne_of rfl | exact ⟨by omega, by omega⟩ | exact ⟨by omega, by rw [lL]; omega⟩ | exact pp | exact pq)
             | (apply Exists.intro; apply And.intro; · first | exact rfl | exact cK | exact cI | exact cW | exact cY | exact gi)
             | rw [hw]
             | fail
            all_goals (conv => whnf)
            all_goals refine VLoop.norm [0, 1, 5, 6, 15, 16, 17] [] ?_
            repeat' (conv => whnf); first
             | (apply And.intro; · first | exact Nat.le_of_ble_eq_true rfl | (show indep _ _ = true; kernel_rfl) | decide | exact pL)
             | (apply Exists.intro; apply And.intro; · first | exact rfl)
             | fail
            all_goals try rw [hw]
            all_goals exact ih ⟨0 + 1, e.v, false⟩ ⟨hgo, hz1, fun _ => ⟨hz2, e, hx, rfl⟩, fun h => absurd h (Nat.succ_ne_zero _), hg2⟩ (by show l.length - (0 + 1) < l.length - 0; omega)
      · have hj := hv1 (by omega)
        obtain ⟨hj1, ej, hj2, hj3⟩ := hj
        have gj := getEc hj2
        rw [decide_eq_false h0] at hg
        simp only [Bool.false_eq_true, if_false] at hg
        have hwj : IntKind.i64.wrap ((i : Int) - 1) = ((i - 1 : Nat) : Int) := by rw [wrap64 (by omega) (by omega)]; omega
        have hg2 : (W == prev) = true → gch m (decide (i + 1 = 0)) e.v I (l.drop (i + 1)) = H := fun h => by rw [h] at hg; exact hg
        have hg3 : (W == prev) = false → H = false := fun h => by rw [h] at hg; exact hg.symm
        cases W <;> cases prev
        · have hg2 := hg2 rfl
          skip
          cases I with
          | true =>
            have hz1 : 0 ≤ e.v := by omega
            have hz2 : 1 ≤ e.v := by omega
            refine VLoop.unroll hE mixed ?_
            repeat' (conv => whnf); first
             | (refine bcase_of (fun hr => ?_) (fun hr => ?_) <;> (try simp only [decide_eq_true_eq, decide_eq_false_iff_not, beq_iff_eq, beq_eq_false_iff_ne, ne_eq, bne_iff_ne, bne_eq_false_iff_eq, Bool.not_eq_true, ge_iff_le, gt_iff_lt] at hr) <;> try (exfalso; first | omega | exact hr rfl | (simp at hr; done) | (simp_all; done) | (simp at hr; omega)))
             | (apply And.intro; · first | exact Nat.le_of_ble_eq_true rfl | (show indep _ _ = true; kernel_rfl) | decide | exact ⟨by decide, by decide⟩ | exact ⟨Nat.le_of_ble_eq_true rfl, allOne_of rfl⟩ | exact allOne_of rfl | exact ⟨by omega, by omega⟩ | exact ⟨by omega, by rw [lL]; omega⟩ | exact pp | exact pq)
             | (apply Exists.intro; apply And.intro; · first | exact rfl | exact cK | exact cI | exact cW | exact cY | exact gi | exact gj)
             | rw [hw]
             | rw [hwj]
             | fail
            all_goals (conv => whnf)
            all_goals refine VLoop.norm [0, 1, 5, 6, 15, 16, 17] [] ?_
            repeat' (conv => whnf); first
             | (apply And.intro; · first | exact Nat.le_of_ble_eq_true rfl | (show indep _ _ = true; kernel_rfl) | decide | exact pL)
             | (apply Exists.intro; apply And.intro; · first | exact rfl)
             | fail
            all_goals try rw [hw]
            all_goals exact ih ⟨i + 1, e.v, true⟩ ⟨hgo, hz1, fun _ => ⟨hz2, e, hx, rfl⟩, fun h => absurd h (Nat.succ_ne_zero _), hg2⟩ (by show l.length - (i + 1) < l.length - i; omega)
          | false =>
            have hz1 : 0 ≤ e.v := by omega
            have hz2 : 1 ≤ e.v := by omega
            refine VLoop.unroll hE mixed ?_
            repeat' (conv => whnf); first
             | (refine bcase_of (fun hr => ?_) (fun hr => ?_) <;> (try simp only [decide_eq_true_eq, decide_eq_false_iff_not, beq_iff_eq, beq_eq_false_iff_ne, ne_eq, bne_iff_ne, bne_eq_false_iff_eq, Bool.not_eq_true, ge_iff_le, gt_iff_lt] at hr) <;> try (exfalso; first | omega | exact hr rfl | (simp at hr; done) | (simp_all; done) | (simp at hr; omega)))
             | (apply And.intro; · first | exact Nat.le_of_ble_eq_true rfl | (show indep _ _ = true; kernel_rfl) | decide | exact ⟨by decide, by decide⟩ | exact ⟨Nat.le_of_ble_eq_true rfl, allOne_of rfl⟩ | exact allOne_of rfl | exact ⟨by omega, by omega⟩ | exact ⟨by omega, by rw [lL]; omega⟩ | exact pp | exact pq)
             | (apply Exists.intro; apply And.intro; · first | exact rfl | exact cK | exact cI | exact cW | exact cY | exact gi | exact gj)
             | rw [hw]
             | rw [hwj]
             | fail
            all_goals (conv => whnf)
            all_goals refine VLoop.norm [0, 1, 5, 6, 15, 16, 17] [] ?_
            repeat' (conv => whnf); first
             | (apply And.intro; · first | exact Nat.le_of_ble_eq_true rfl | (show indep _ _ = true; kernel_rfl) | decide | exact pL)
             | (apply Exists.intro; apply And.intro; · first | exact rfl)
             | fail
            all_goals try rw [hw]
            all_goals exact ih ⟨i + 1, e.v, false⟩ ⟨hgo, hz1, fun _ => ⟨hz2, e, hx, rfl⟩, fun h => absurd h (Nat.succ_ne_zero _), hg2⟩ (by show l.length - (i + 1) < l.length - i; omega)
        · obtain rfl := hg3 rfl
          skip
          cases I with
          | true =>
            refine VLoop.unroll hE mixed ?_
            repeat' (conv => whnf); first
             | (refine bcase_of (fun hr => ?_) (fun hr => ?_) <;> (try simp only [decide_eq_true_eq, decide_eq_false_iff_not, beq_iff_eq, beq_eq_false_iff_ne, ne_eq, bne_iff_ne, bne_eq_false_iff_eq, Bool.not_eq_true, ge_iff_le, gt_iff_lt] at hr) <;> try (exfalso; first | omega | exact hr rfl | (simp at hr; done) | (simp_all; done) | (simp at hr; omega)))
             | (apply And.intro; · first | exact Nat.le_of_ble_eq_true rfl | (show indep _ _ = true; kernel_rfl) | decide | exact ⟨by decide, by decide⟩ | exact ⟨Nat.le_of_ble_eq_true rfl, allOne_of rfl⟩ | exact allOne_of rfl | exact ⟨by omega, by omega⟩ | exact ⟨by omega, by rw [lL]; omega⟩ | exact pp | exact pq)
             | (apply Exists.intro; apply And.intro; · first | exact rfl | exact cK | exact cI | exact cW | exact cY | exact gi | exact gj)
             | rw [hw]
             | rw [hwj]
             | fail
            all_goals (conv => whnf)
            all_goals rfl
          | false =>
            refine VLoop.unroll hE mixed ?_
            repeat' (conv => whnf); first
             | (refine bcase_of (fun hr => ?_) (fun hr => ?_) <;> (try simp only [decide_eq_true_eq, decide_eq_false_iff_not, beq_iff_eq, beq_eq_false_iff_ne, ne_eq, bne_iff_ne, bne_eq_false_iff_eq, Bool.not_eq_true, ge_iff_le, gt_iff_lt] at hr) <;> try (exfalso; first | omega | exact hr rfl | (simp at hr; done) | (simp_all; done) | (simp at hr; omega)))
             | (apply And.intro; · first | exact Nat.le_of_ble_eq_true rfl | (show indep _ _ = true; kernel_rfl) | decide | exact ⟨by decide, by decide⟩ | exact ⟨Nat.le_of_ble_eq_true rfl, allOne_of rfl⟩ | exact allOne_of rfl | exact ⟨by omega, by omega⟩ | exact ⟨by omega, by rw [lL]; omega⟩ | exact pp | exact pq)
             | (apply Exists.intro; apply And.intro; · first | exact rfl | exact cK | exact cI | exact cW | exact cY | exact gi | exact gj)
             | rw [hw]
             | rw [hwj]
             | fail
            all_goals (conv => whnf)
            all_goals rfl
        · obtain rfl := hg3 rfl
          skip
          cases I with
          | true =>
            refine VLoop.unroll hE mixed ?_
            repeat' (conv => whnf); first
             | (refine bcase_of (fun hr => ?_) (fun hr => ?_) <;> (try simp only [decide_eq_true_eq, decide_eq_false_iff_not, beq_iff_eq, beq_eq_false_iff_ne, ne_eq, bne_iff_ne, bne_eq_false_iff_eq, Bool.not_eq_true, ge_iff_le, gt_iff_lt] at hr) <;> try (exfalso; first | omega | exact hr rfl | (simp at hr; done) | (simp_all; done) | (simp at hr; omega)))
             | (apply And.intro; · first | exact Nat.le_of_ble_eq_true rfl | (show indep _ _ = true; kernel_rfl) | decide | exact ⟨by decide, by decide⟩ | exact ⟨Nat.le_of_ble_eq_true rfl, allOne_of rfl⟩ | exact allOne_of rfl | exact ⟨by omega, by omega⟩ | exact ⟨by omega, by rw [lL]; omega⟩ | exact pp | exact pq)
             | (apply Exists.intro; apply And.intro; · first | exact rfl | exact cK | exact cI | exact cW | exact cY | exact gi | exact gj)
             | rw [hw]
             | rw [hwj]
             | fail
            all_goals (conv => whnf)
            all_goals rfl
          | false =>
            refine VLoop.unroll hE mixed ?_
            repeat' (conv => whnf); first
             | (refine bcase_of (fun hr => ?_) (fun hr => ?_) <;> (try simp only [decide_eq_true_eq, decide_eq_false_iff_not, beq_iff_eq, beq_eq_false_iff_ne, ne_eq, bne_iff_ne, bne_eq_false_iff_eq, Bool.not_eq_true, ge_iff_le, gt_iff_lt] at hr) <;> try (exfalso; first | omega | exact hr rfl | (simp at hr; done) | (simp_all; done) | (simp at hr; omega)))
             | (apply And.intro; · first | exact Nat.le_of_ble_eq_true rfl | (show indep _ _ = true; kernel_rfl) | decide | exact ⟨by decide, by decide⟩ | exact ⟨Nat.le_of_ble_eq_true rfl, allOne_of rfl⟩ | exact allOne_of rfl | exact ⟨by omega, by omega⟩ | exact ⟨by omega, by rw [lL]; omega⟩ | exact pp | exact pq)
             | (apply Exists.intro; apply And.intro; · first | exact rfl | exact cK | exact cI | exact cW | exact cY | exact gi | exact gj)
             | rw [hw]
             | rw [hwj]
             | fail
            all_goals (conv => whnf)
            all_goals rfl
        · have hg2 := hg2 rfl
          skip
          cases I with
          | true =>
            have hz1 : 0 ≤ e.v := by omega
            have hz2 : 1 ≤ e.v := by omega
            refine VLoop.unroll hE mixed ?_
            repeat' (conv => whnf); first
             | (refine bcase_of (fun hr => ?_) (fun hr => ?_) <;> (try simp only [decide_eq_true_eq, decide_eq_false_iff_not, beq_iff_eq, beq_eq_false_iff_ne, ne_eq, bne_iff_ne, bne_eq_false_iff_eq, Bool.not_eq_true, ge_iff_le, gt_iff_lt] at hr) <;> try (exfalso; first | omega | exact hr rfl | (simp at hr; done) | (simp_all; done) | (simp at hr; omega)))
             | (apply And.intro; · first | exact Nat.le_of_ble_eq_true rfl | (show indep _ _ = true; kernel_rfl) | decide | exact ⟨by decide, by decide⟩ | exact ⟨Nat.le_of_ble_eq_true rfl, allOne_of rfl⟩ | exact allOne_of rfl | exact ⟨by omega, by omega⟩ | exact ⟨by omega, by rw [lL]; omega⟩ | exact pp | exact pq)
             | (apply Exists.intro; apply And.intro; · first | exact rfl | exact cK | exact cI | exact cW | exact cY | exact gi | exact gj)
             | rw [hw]
             | rw [hwj]
             | fail
            all_goals (conv => whnf)
            all_goals refine VLoop.norm [0, 1, 5, 6, 15, 16, 17] [] ?_
            repeat' (conv => whnf); first
             | (apply And.intro; · first | exact Nat.le_of_ble_eq_true rfl | (show indep _ _ = true; kernel_rfl) | decide | exact pL)
             | (apply Exists.intro; apply And.intro; · first | exact rfl)
             | fail
            all_goals try rw [hw]
            all_goals exact ih ⟨i + 1, e.v, true⟩ ⟨hgo, hz1, fun _ => ⟨hz2, e, hx, rfl⟩, fun h => absurd h (Nat.succ_ne_zero _), hg2⟩ (by show l.length - (i + 1) < l.length - i; omega)
          | false =>
            have hz1 : 0 ≤ e.v := by omega
            have hz2 : 1 ≤ e.v := by omega
            refine VLoop.unroll hE mixed ?_
            repeat' (conv => whnf); first
             | (refine bcase_of (fun hr => ?_) (fun hr => ?_) <;> (try simp only [decide_eq_true_eq, decide_eq_false_iff_not, beq_iff_eq, beq_eq_false_iff_ne, ne_eq, bne_iff_ne, bne_eq_false_iff_eq, Bool.not_eq_true, ge_iff_le, gt_iff_lt] at hr) <;> try (exfalso; first | omega | exact hr rfl | (simp at hr; done) | (simp_all; done) | (simp at hr; omega)))
             | (apply And.intro; · first | exact Nat.le_of_ble_eq_true rfl | (show indep _ _ = true; kernel_rfl) | decide | exact ⟨by decide, by decide⟩ | exact ⟨Nat.le_of_ble_eq_true rfl, allOne_of rfl⟩ | exact allOne_of rfl | exact ⟨by omega, by omega⟩ | exact ⟨by omega, by rw [lL]; omega⟩ | exact pp | exact pq)
             | (apply Exists.intro; apply And.intro; · first | exact rfl | exact cK | exact cI | exact cW | exact cY | exact gi | exact gj)
             | rw [hw]
             | rw [hwj]
             | fail
            all_goals (conv => whnf)
            all_goals refine VLoop.norm [0, 1, 5, 6, 15, 16, 17] [] ?_
            repeat' (conv => whnf); first
             | (apply And.intro; · first | exact Nat.le_of_ble_eq_true rfl | (show indep _ _ = true; kernel_rfl) | decide | exact pL)
             | (apply Exists.intro; apply And.intro; · first | exact rfl)
             | fail
            all_goals try rw [hw]
            all_goals exact ih ⟨i + 1, e.v, false⟩ ⟨hgo, hz1, fun _ => ⟨hz2, e, hx, rfl⟩, fun h => absurd h (Nat.succ_ne_zero _), hg2⟩ (by show l.length - (i + 1) < l.length - i; omega)
end Go.Proofs.YtbppemcdphgknaaDoor
/- Chapter 13: may a chain be, by the reference. -/
namespace Go.Proofs.YtbppemcdphgknaaDoor
open Go Go.Vm
set_option maxRecDepth 100000
set_option maxHeartbeats 40000000
set_option linter.unusedSimpArgs false
set_option linter.unusedVariables false
theorem goodL13_ok (m : Int) (l : List En) (hl : l.length ≤ 1000000) (hin : ∀ e ∈ l, EnIn e) : PTriple Tryd.prog gv 14 [i64V m, chV l] (.bool (goodL m l)) := by
  have pL := pure_E l
  have lL := lenE l
  generalize hH : goodL m l = H
  unfold goodL at hH
  by_cases hm : 1 ≤ m ∧ m ≤ 2
  case neg =>
    have e : (decide (1 ≤ m) && decide (m ≤ 2)) = false := by simp; omega
    rw [e] at hH
    obtain rfl : H = false := hH.symm
    refine PTriple.of_body (C := cx) Tryd.func14 rfl (by kernel_rfl) mixed fun E hE => ?_
    repeat' (conv => whnf); first
     | (refine bcase_of (fun hr => ?_) (fun hr => ?_) <;> (try simp only [decide_eq_true_eq, decide_eq_false_iff_not, beq_iff_eq, beq_eq_false_iff_ne, ne_eq, bne_iff_ne, bne_eq_false_iff_eq, Bool.not_eq_true, ge_iff_le, gt_iff_lt] at hr) <;> try (exfalso; first | omega | exact hr rfl | (simp at hr; done) | (simp at hr; omega)))
     | (apply And.intro; · first | exact Nat.le_of_ble_eq_true rfl | (show indep _ _ = true; kernel_rfl) | decide | exact ⟨by decide, by decide⟩ | exact ⟨Nat.le_of_ble_eq_true rfl, allOne_of rfl⟩ | exact allOne_of rfl | exact ⟨by omega, by omega⟩)
     | (apply Exists.intro; apply And.intro; · first | exact rfl)
     | fail
    all_goals (conv => whnf)
    all_goals rfl
  case pos =>
  rw [decide_eq_true hm.1, decide_eq_true hm.2, Bool.true_and, Bool.true_and] at hH
  refine PTriple.of_body (C := cx) Tryd.func14 rfl (by kernel_rfl) mixed fun E hE => ?_
  repeat' (conv => whnf); first
   | (refine bcase_of (fun hr => ?_) (fun hr => ?_) <;> (try simp only [decide_eq_true_eq, decide_eq_false_iff_not, beq_iff_eq, beq_eq_false_iff_ne, ne_eq, bne_iff_ne, bne_eq_false_iff_eq, Bool.not_eq_true, ge_iff_le, gt_iff_lt] at hr) <;> try (exfalso; first | omega | exact hr rfl | (simp at hr; done) | (simp at hr; omega)))
   | (apply And.intro; · first | exact Nat.le_of_ble_eq_true rfl | (show indep _ _ = true; kernel_rfl) | decide | exact ⟨by decide, by decide⟩ | exact ⟨Nat.le_of_ble_eq_true rfl, allOne_of rfl⟩ | exact allOne_of rfl | exact ⟨by omega, by omega⟩)
   | (apply Exists.intro; apply And.intro; · first | exact rfl)
   | fail
  all_goals (conv => whnf)
  refine VLoop.norm [0, 1, 5, 6] [] ?_
  repeat' (conv => whnf); first
   | (apply And.intro; · first | exact Nat.le_of_ble_eq_true rfl | (show indep _ _ = true; kernel_rfl) | decide | exact pL)
   | (apply Exists.intro; apply And.intro; · first | exact rfl)
   | fail
  refine VLoop.inv (fun z : ZG => stG13 m l z.prev z.i) (fun z => z.i ≤ l.length ∧ 0 ≤ z.ver ∧ (0 < z.i → 1 ≤ z.ver ∧ ∃ e, l[z.i - 1]? = some e ∧ e.v = z.ver) ∧ (z.i = 0 → z.ver = 0) ∧ gch m (decide (z.i = 0)) z.ver z.prev (l.drop z.i) = H) (fun z => l.length - z.i) ⟨0, 0, false⟩ ⟨Nat.zero_le _, Int.le_refl _, fun h => absurd h (Nat.lt_irrefl _), fun _ => rfl, hH⟩ (rfl) ?_
  clear hH
  rintro ⟨i, ver, prev⟩ ⟨hi, hv0, hv1, hv2, hg⟩ ih
  simp only at hi hv0 hv1 hv2 hg ih
  show VLoop cx E _ (stG13 m l prev i) _
  by_cases hgo : i < l.length
  case neg =>
    rw [List.drop_eq_nil_of_le (by omega)] at hg
    obtain rfl : H = true := by rw [← hg]; cases decide (i = 0) <;> rfl
    refine VLoop.unroll hE mixed ?_
    repeat' (conv => whnf); first
     | (refine bcase_of (fun hr => ?_) (fun hr => ?_) <;> (try simp only [decide_eq_true_eq, decide_eq_false_iff_not, beq_iff_eq, beq_eq_false_iff_ne, ne_eq, bne_iff_ne, bne_eq_false_iff_eq, Bool.not_eq_true, ge_iff_le, gt_iff_lt] at hr) <;> try (exfalso; first | omega | exact hr rfl | (simp at hr; done) | (simp at hr; omega)))
     | (apply And.intro; · first | exact Nat.le_of_ble_eq_true rfl | (show indep _ _ = true; kernel_rfl) | decide | exact ⟨by decide, by decide⟩ | exact ⟨Nat.le_of_ble_eq_true rfl, allOne_of rfl⟩ | exact allOne_of rfl | exact ⟨by omega, by omega⟩)
     | (apply Exists.intro; apply And.intro; · first | exact rfl)
     | fail
    all_goals (conv => whnf)
    all_goals rfl
  case pos =>
  have hw : IntKind.i64.wrap ((i : Int) + 1) = ((i + 1 : Nat) : Int) := wrap64 (by omega) (by omega)
  obtain ⟨e, hx⟩ : ∃ x, l[i]? = some x := ⟨_, List.getElem?_eq_getElem hgo⟩
  have gi := getEc hx
  obtain ⟨h1, h2, h3, h4, h5, h6⟩ := hin e (List.mem_of_getElem? hx)
  have pp := pure_R e.p
  have pq := pure_R e.q
  rw [drop_get hx] at hg
  simp only [gch] at hg
  have cK := ok45 e.o
  have cI := ok46 e.o
  have cW := ok48 e.o
  have cG := cellGood9_ok m e.n e.a e.b e.p e.q h1 h2 h3 h4 h5 h6
  have cZ := zero9_ok e.n e.a e.b e.p e.q
  have hYt : is e.o = true → PTriple Tryd.prog gv 29 [i64V m, cellV e.n e.a e.b e.p e.q] (.bool (mayE m e)) := fun h => by unfold mayE mayC; rw [h]; exact cG
  have hYf : is e.o = false → PTriple Tryd.prog gv 47 [cellV e.n e.a e.b e.p e.q] (.bool (mayE m e)) := fun h => by unfold mayE mayC; rw [h]; exact cZ
  clear cG cZ
  generalize mayE m e = Y at hYt hYf hg
  generalize known e.o = K at cK hg
  generalize is e.o = I at cI hYt hYf hg
  generalize was e.o = W at cW hg
  by_cases hver : ver < e.v
  case neg =>
    rw [decide_eq_false hver] at hg
    simp only [Bool.false_and] at hg
    subst hg
    by_cases h0 : i = 0
    · subst h0
      have hver0 := hv2 rfl
      refine VLoop.unroll hE mixed ?_
      repeat' (conv => whnf); first
       | (refine bcase_of (fun hr => ?_) (fun hr => ?_) <;> (try simp only [decide_eq_true_eq, decide_eq_false_iff_not, beq_iff_eq, beq_eq_false_iff_ne, ne_eq, bne_iff_ne, bne_eq_false_iff_eq, Bool.not_eq_true, ge_iff_le, gt_iff_lt] at hr) <;> try (exfalso; first | omega | exact hr rfl | (simp at hr; done) | (simp_all; done) | (simp at hr; omega)))
       | (apply And.intro; · first | exact Nat.le_of_ble_eq_true rfl | (show indep _ _ = true; kernel_rfl) | decide | exact ⟨by decide, by decide⟩ | exact ⟨Nat.le_of_ble_eq_true rfl, allOne_of rfl⟩ | exact allOne_of rfl | exact ⟨by omega, by omega⟩ | exact ⟨by omega, by rw [lL]; omega⟩ | exact pp | exact pq)
       | (apply Exists.intro; apply And.intro; · first | exact rfl | exact cK | exact cI | exact cW | exact hYt rfl | exact hYf rfl | exact gi)
       | rw [hw]
       | fail
      all_goals (conv => whnf)
      all_goals rfl
    · obtain ⟨hj1, ej, hj2, hj3⟩ := hv1 (by omega)
      have gj := getEc hj2
      have hwj : IntKind.i64.wrap ((i : Int) - 1) = ((i - 1 : Nat) : Int) := by rw [wrap64 (by omega) (by omega)]; omega
      refine VLoop.unroll hE mixed ?_
      repeat' (conv => whnf); first
       | (refine bcase_of (fun hr => ?_) (fun hr => ?_) <;> (try simp only [decide_eq_true_eq, decide_eq_false_iff_not, beq_iff_eq, beq_eq_false_iff_ne, ne_eq, bne_iff_ne, bne_eq_false_iff_eq, Bool.not_eq_true, ge_iff_le, gt_iff_lt] at hr) <;> try (exfalso; first | omega | exact hr rfl | (simp at hr; done) | (simp_all; done) | (simp at hr; omega)))
       | (apply And.intro; · first | exact Nat.le_of_ble_eq_true rfl | (show indep _ _ = true; kernel_rfl) | decide | exact ⟨by decide, by decide⟩ | exact ⟨Nat.le_of_ble_eq_true rfl, allOne_of rfl⟩ | exact allOne_of rfl | exact ⟨by omega, by omega⟩ | exact ⟨by omega, by rw [lL]; omega⟩ | exact pp | exact pq)
       | (apply Exists.intro; apply And.intro; · first | exact rfl | exact cK | exact cI | exact cW | exact hYt rfl | exact hYf rfl | exact gi | exact gj)
       | rw [hw]
       | rw [hwj]
       | fail
      all_goals (conv => whnf)
      all_goals rfl
  case pos =>
  rw [decide_eq_true hver] at hg
  cases K with
  | false =>
    simp only [Bool.false_and, Bool.and_false, Bool.true_and] at hg
    subst hg
    by_cases h0 : i = 0
    · subst h0
      have hver0 := hv2 rfl
      refine VLoop.unroll hE mixed ?_
      repeat' (conv => whnf); first
       | (refine bcase_of (fun hr => ?_) (fun hr => ?_) <;> (try simp only [decide_eq_true_eq, decide_eq_false_iff_not, beq_iff_eq, beq_eq_false_iff_ne, ne_eq, bne_iff_ne, bne_eq_false_iff_eq, Bool.not_eq_true, ge_iff_le, gt_iff_lt] at hr) <;> try (exfalso; first | omega | exact hr rfl | (simp at hr; done) | (simp_all; done) | (simp at hr; omega)))
       | (apply And.intro; · first | exact Nat.le_of_ble_eq_true rfl | (show indep _ _ = true; kernel_rfl) | decide | exact ⟨by decide, by decide⟩ | exact ⟨Nat.le_of_ble_eq_true rfl, allOne_of rfl⟩ | exact allOne_of rfl | exact ⟨by omega, by omega⟩ | exact ⟨by omega, by rw [lL]; omega⟩ | exact pp | exact pq)
       | (apply Exists.intro; apply And.intro; · first | exact rfl | exact cK | exact cI | exact cW | exact hYt rfl | exact hYf rfl | exact gi)
       | rw [hw]
       | fail
      all_goals (conv => whnf)
      all_goals rfl
    · obtain ⟨hj1, ej, hj2, hj3⟩ := hv1 (by omega)
      have gj := getEc hj2
      have hwj : IntKind.i64.wrap ((i : Int) - 1) = ((i - 1 : Nat) : Int) := by rw [wrap64 (by omega) (by omega)]; omega
      refine VLoop.unroll hE mixed ?_
      repeat' (conv => whnf); first
       | (refine bcase_of (fun hr => ?_) (fun hr => ?_) <;> (try simp only [decide_eq_true_eq, decide_eq_false_iff_not, beq_iff_eq, beq_eq_false_iff_ne, ne_eq, bne_iff_ne, bne_eq_false_iff_eq, Bool.not_eq_true, ge_iff_le, gt_iff_lt] at hr) <;> try (exfalso; first | omega | exact hr rfl | (simp at hr; done) | (simp_all; done) | (simp at hr; omega)))
       | (apply And.intro; · first | exact Nat.le_of_ble_eq_true rfl | (show indep _ _ = true; kernel_rfl) | decide | exact ⟨by decide, by decide⟩ | exact ⟨Nat.le_of_ble_eq_true rfl, allOne_of rfl⟩ | exact allOne_of rfl | exact ⟨by omega, by omega⟩ | exact ⟨by omega, by rw [lL]; omega⟩ | exact pp | exact pq)
       | (apply Exists.intro; apply And.intro; · first | exact rfl | exact cK | exact cI | exact cW | exact hYt rfl | exact hYf rfl | exact gi | exact gj)
       | rw [hw]
       | rw [hwj]
       | fail
      all_goals (conv => whnf)
      all_goals rfl
  | true =>
    cases Y with
    | false =>
      simp only [Bool.false_and, Bool.and_false, Bool.true_and] at hg
      subst hg
      cases I with
      | true =>
        by_cases h0 : i = 0
        · subst h0
          have hver0 := hv2 rfl
          refine VLoop.unroll hE mixed ?_
          repeat' (conv => whnf); first
           | (refine bcase_of (fun hr => ?_) (fun hr => ?_) <;> (try simp only [decide_eq_true_eq, decide_eq_false_iff_not, beq_iff_eq, beq_eq_false_iff_ne, ne_eq, bne_iff_ne, bne_eq_false_iff_eq, Bool.not_eq_true, ge_iff_le, gt_iff_lt] at hr) <;> try (exfalso; first | omega | exact hr rfl | (simp at hr; done) | (simp_all; done) | (simp at hr; omega)))
           | (apply And.intro; · first | exact Nat.le_of_ble_eq_true rfl | (show indep _ _ = true; kernel_rfl) | decide | exact ⟨by decide, by decide⟩ | exact ⟨Nat.le_of_ble_eq_true rfl, allOne_of rfl⟩ | exact allOne_of rfl | exact ⟨by omega, by omega⟩ | exact ⟨by omega, by rw [lL]; omega⟩ | exact pp | exact pq)
           | (apply Exists.intro; apply And.intro; · first | exact rfl | exact cK | exact cI | exact cW | exact hYt rfl | exact hYf rfl | exact gi)
           | rw [hw]
           | fail
          all_goals (conv => whnf)
          all_goals rfl
        · obtain ⟨hj1, ej, hj2, hj3⟩ := hv1 (by omega)
          have gj := getEc hj2
          have hwj : IntKind.i64.wrap ((i : Int) - 1) = ((i - 1 : Nat) : Int) := by rw [wrap64 (by omega) (by omega)]; omega
          refine VLoop.unroll hE mixed ?_
          repeat' (conv => whnf); first
           | (refine bcase_of (fun hr => ?_) (fun hr => ?_) <;> (try simp only [decide_eq_true_eq, decide_eq_false_iff_not, beq_iff_eq, beq_eq_false_iff_ne, ne_eq, bne_iff_ne, bne_eq_false_iff_eq, Bool.not_eq_true, ge_iff_le, gt_iff_lt] at hr) <;> try (exfalso; first | omega | exact hr rfl | (simp at hr; done) | (simp_all; done) | (simp at hr; omega)))
           | (apply And.intro; · first | exact Nat.le_of_ble_eq_true rfl | (show indep _ _ = true; kernel_rfl) | decide | exact ⟨by decide, by decide⟩ | exact ⟨Nat.le_of_ble_eq_true rfl, allOne_of rfl⟩ | exact allOne_of rfl | exact ⟨by omega, by omega⟩ | exact ⟨by omega, by rw [lL]; omega⟩ | exact pp | exact pq)
           | (apply Exists.intro; apply And.intro; · first | exact rfl | exact cK | exact cI | exact cW | exact hYt rfl | exact hYf rfl | exact gi | exact gj)
           | rw [hw]
           | rw [hwj]
           | fail
          all_goals (conv => whnf)
          all_goals rfl
      | false =>
        by_cases h0 : i = 0
        · subst h0
          have hver0 := hv2 rfl
          refine VLoop.unroll hE mixed ?_
          repeat' (conv => whnf); first
           | (refine bcase_of (fun hr => ?_) (fun hr => ?_) <;> (try simp only [decide_eq_true_eq, decide_eq_false_iff_not, beq_iff_eq, beq_eq_false_iff_ne, ne_eq, bne_iff_ne, bne_eq_false_iff_eq, Bool.not_eq_true, ge_iff_le, gt_iff_lt] at hr) <;> try (exfalso; first | omega | exact hr rfl | (simp at hr; done) | (simp_all; done) | (simp at hr; omega)))
           | (apply And.intro; · first | exact Nat.le_of_ble_eq_true rfl | (show indep _ _ = true; kernel_rfl) | decide | exact ⟨by decide, by decide⟩ | exact ⟨Nat.le_of_ble_eq_true rfl, allOne_of rfl⟩ | exact allOne_of rfl | exact ⟨by omega, by omega⟩ | exact ⟨by omega, by rw [lL]; omega⟩ | exact pp | exact pq)
           | (apply Exists.intro; apply And.intro; · first | exact rfl | exact cK | exact cI | exact cW | exact hYt rfl | exact hYf rfl | exact gi)
           | rw [hw]
           | fail
          all_goals (conv => whnf)
          all_goals rfl
        · obtain ⟨hj1, ej, hj2, hj3⟩ := hv1 (by omega)
          have gj := getEc hj2
          have hwj : IntKind.i64.wrap ((i : Int) - 1) = ((i - 1 : Nat) : Int) := by rw [wrap64 (by omega) (by omega)]; omega
          refine VLoop.unroll hE mixed ?_
          repeat' (conv => whnf); first
           | (refine bcase_of (fun hr => ?_) (fun hr => ?_) <;> (try simp only [decide_eq_true_eq, decide_eq_false_iff_not, beq_iff_eq, beq_eq_false_iff_ne, ne_eq, bne_iff_ne, bne_eq_false_iff_eq, Bool.not_eq_true, ge_iff_le, gt_iff_lt] at hr) <;> try (exfalso; first | omega | exact hr rfl | (simp at hr; done) | (simp_all; done) | (simp at hr; omega)))
           | (apply And.intro; · first | exact Nat.le_of_ble_eq_true rfl | (show indep _ _ = true; kernel_rfl) | decide | exact ⟨by decide, by decide⟩ | exact ⟨Nat.le_of_ble_eq_true rfl, allOne_of rfl⟩ | exact allOne_of rfl | exact ⟨by omega, by omega⟩ | exact ⟨by omega, by rw [lL]; omega⟩ | exact pp | exact pq)
           | (apply Exists.intro; apply And.intro; · first | exact rfl | exact cK | exact cI | exact cW | exact hYt rfl | exact hYf rfl | exact gi | exact gj)
           | rw [hw]
           | rw [hwj]
           | fail
          all_goals (conv => whnf)
          all_goals rfl
    | true =>
      simp only [Bool.true_and] at hg
      by_cases h0 : i = 0
      · subst h0
        have hver0 := hv2 rfl
        simp only [decide_true, if_true] at hg
        by_cases h3' : e.o = 3
        · rw [decide_eq_false (fun h => h h3')] at hg
          simp only [Bool.false_and] at hg
          subst hg
          skip
          cases I with
          | true =>
            refine VLoop.unroll hE mixed ?_
            repeat' (conv => whnf); first
             | (refine bcase_of (fun hr => ?_) (fun hr => ?_) <;> (try simp only [decide_eq_true_eq, decide_eq_false_iff_not, beq_iff_eq, beq_eq_false_iff_ne, ne_eq, bne_iff_ne, bne_eq_false_iff_eq, Bool.not_eq_true, ge_iff_le, gt_iff_lt] at hr) <;> try (exfalso; first | omega | exact hr rfl | (simp at hr; done) | (simp_all; done) | (simp at hr; omega)))
             | (apply And.intro; · first | exact Nat.le_of_ble_eq_true rfl | (show indep _ _ = true; kernel_rfl) | decide | exact ⟨by decide, by decide⟩ | exact ⟨Nat.le_of_ble_eq_true rfl, allOne_of rfl⟩ | exact allOne_of rfl | exact ⟨by omega, by omega⟩ | exact ⟨by omega, by rw [lL]; omega⟩ | exact pp | exact pq)
             | (apply Exists.intro; apply And.intro; · first | exact rfl | exact cK | exact cI | exact cW | exact hYt rfl | exact hYf rfl | exact gi)
             | rw [hw]
             | fail
            all_goals (conv => whnf)
            all_goals rfl
          | false =>
            refine VLoop.unroll hE mixed ?_
            repeat' (conv => whnf); first
             | (refine bcase_of (fun hr => ?_) (fun hr => ?_) <;> (try simp only [decide_eq_true_eq, decide_eq_false_iff_not, beq_iff_eq, beq_eq_false_iff_ne, ne_eq, bne_iff_ne, bne_eq_false_iff_eq, Bool.not_eq_true, ge_iff_le, gt_iff_lt] at hr) <;> try (exfalso; first | omega | exact hr rfl | (simp at hr; done) | (simp_all; done) | (simp at hr; omega)))
             | (apply And.intro; · first | exact Nat.le_of_ble_eq_true rfl | (show indep _ _ = true; kernel_rfl) | decide | exact ⟨by decide, by decide⟩ | exact ⟨Nat.le_of_ble_eq_true rfl, allOne_of rfl⟩ | exact allOne_of rfl | exact ⟨by omega, by omega⟩ | exact ⟨by omega, by rw [lL]; omega⟩ | exact pp | exact pq)
             | (apply Exists.intro; apply And.intro; · first | exact rfl | exact cK | exact cI | exact cW | exact hYt rfl | exact hYf rfl | exact gi)
             | rw [hw]
             | fail
            all_goals (conv => whnf)
            all_goals rfl
        · rw [decide_eq_true h3', Bool.true_and] at hg
          have hg2 : gch m (decide (0 + 1 = 0)) e.v I (l.drop (0 + 1)) = H := hg
          skip
          cases I with
          | true =>
            have hz1 : 0 ≤ e.v := by omega
            have hz2 : 1 ≤ e.v := by omega
            refine VLoop.unroll hE mixed ?_
            repeat' (conv => whnf); first
             | (refine bcase_of (fun hr => ?_) (fun hr => ?_) <;> (try simp only [decide_eq_true_eq, decide_eq_false_iff_not, beq_iff_eq, beq_eq_false_iff_ne, ne_eq, bne_iff_ne, bne_eq_false_iff_eq, Bool.not_eq_true, ge_iff_le, gt_iff_lt] at hr) <;> try (exfalso; first | omega | exact hr rfl | (simp at hr; done) | (simp_all; done) | (simp at hr; omega)))
             | (apply And.intro; · first | exact Nat.le_of_ble_eq_true rfl | (show indep _ _ = true; kernel_rfl) | decide | exact ⟨by decide, by decide⟩ | exact ⟨Nat.le_of_ble_eq_true rfl, allOne_of rfl⟩ | exact allOne_of rfl | exact ⟨by omega, by omega⟩ | exact ⟨by omega, by rw [lL]; omega⟩ | exact pp | exact pq)
             | (apply Exists.intro; apply And.intro; · first | exact rfl | exact cK | exact cI | exact cW | exact hYt rfl | exact hYf rfl | exact gi)
             | rw [hw]
             | fail
            all_goals (conv => whnf)
            all_goals refine VLoop.norm [0, 1, 5, 6] [] ?_
            repeat' (conv => whnf); first
             | (apply And.intro; · first | exact Nat.le_of_ble_eq_true rfl | (show indep _ _ = true; kernel_rfl) | decide | exact pL)
             | (apply Exists.intro; apply And.intro; · first | exact rfl)
             | fail
            all_goals try rw [hw]
            all_goals exact ih ⟨0 + 1, e.v, true⟩ ⟨hgo, hz1, fun _ => ⟨hz2, e, hx, rfl⟩, fun h => absurd h (Nat.succ_ne_zero _), hg2⟩ (by show l.length - (0 + 1) < l.length - 0; omega)
          | false =>
            have hz1 : 0 ≤ e.v := by omega
            have hz2 : 1 ≤ e.v := by omega
            refine VLoop.unroll hE mixed ?_
            repeat' (conv => whnf); first
             | (refine bcase_of (fun hr => ?_) (fun hr => ?_) <;> (try simp only [decide_eq_true_eq, decide_eq_false_iff_not, beq_iff_eq, beq_eq_false_iff_ne, ne_eq, bne_iff_ne, bne_eq_false_iff_eq, Bool.not_eq_true, ge_iff_le, gt_iff_lt] at hr) <;> try (exfalso; first | omega | exact hr rfl | (simp at hr; done) | (simp_all; done) | (simp at hr; omega)))
             | (apply And.intro; · first | exact Nat.le_of_ble_eq_true rfl | (show indep _ _ = true; kernel_rfl) | decide | exact ⟨by decide, by decide⟩ | exact ⟨Nat.le_of_ble_eq_true rfl, allOne_of rfl⟩ | exact allOne_of rfl | exact ⟨by omega, by omega⟩ | exact ⟨by omega, by rw [lL]; omega⟩ | exact pp | exact pq)
             | (apply Exists.intro; apply And.intro; · first | exact rfl | exact cK | exact cI | exact cW | exact hYt rfl | exact hYf rfl | exact gi)
             | rw [hw]
             | fail
            all_goals (conv => whnf)
            all_goals refine VLoop.norm [0, 1, 5, 6] [] ?_
            repeat' (conv => whnf); first
             | (apply And.intro; · first | exact Nat.le_of_ble_eq_true rfl | (show indep _ _ = true; kernel_rfl) | decide | exact pL)
             | (apply Exists.intro; apply And.intro; · first | exact rfl)
             | fail
            all_goals try rw [hw]
            all_goals exact ih ⟨0 + 1, e.v, false⟩ ⟨hgo, hz1, fun _ => ⟨hz2, e, hx, rfl⟩, fun h => absurd h (Nat.succ_ne_zero _), hg2⟩ (by show l.length - (0 + 1) < l.length - 0; omega)
      · have hj := hv1 (by omega)
        obtain ⟨hj1, ej, hj2, hj3⟩ := hj
        have gj := getEc hj2
        rw [decide_eq_false h0] at hg
        simp only [Bool.false_eq_true, if_false] at hg
        have hwj : IntKind.i64.wrap ((i : Int) - 1) = ((i - 1 : Nat) : Int) := by rw [wrap64 (by omega) (by omega)]; omega
        have hg2 : (W == prev) = true → gch m (decide (i + 1 = 0)) e.v I (l.drop (i + 1)) = H := fun h => by rw [h] at hg; exact hg
        have hg3 : (W == prev) = false → H = false := fun h => by rw [h] at hg; exact hg.symm
        cases W <;> cases prev
        · have hg2 := hg2 rfl
          skip
          cases I with
          | true =>
            have hz1 : 0 ≤ e.v := by omega
            have hz2 : 1 ≤ e.v := by omega
            refine VLoop.unroll hE mixed ?_
            repeat' (conv => whnf); first
             | (refine bcase_of (fun hr => ?_) (fun hr => ?_) <;> (try simp only [decide_eq_true_eq, decide_eq_false_iff_not, beq_iff_eq, beq_eq_false_iff_ne, ne_eq, bne_iff_ne, bne_eq_false_iff_eq, Bool.not_eq_true, ge_iff_le, gt_iff_lt] at hr) <;> try (exfalso; first | omega | exact hr rfl | (simp at hr; done) | (simp_all; done) | (simp at hr; omega)))
             | (apply And.intro; · first | exact Nat.le_of_ble_eq_true rfl | (show indep _ _ = true; kernel_rfl) | decide | exact ⟨by decide, by decide⟩ | exact ⟨Nat.le_of_ble_eq_true rfl, allOne_of rfl⟩ | exact allOne_of rfl | exact ⟨by omega, by omega⟩ | exact ⟨by omega, by rw [lL]; omega⟩ | exact pp | exact pq)
             | (apply Exists.intro; apply And.intro; · first | exact rfl | exact cK | exact cI | exact cW | exact hYt rfl | exact hYf rfl | exact gi | exact gj)
             | rw [hw]
             | rw [hwj]
             | fail
            all_goals (conv => whnf)
            all_goals refine VLoop.norm [0, 1, 5, 6] [] ?_
            repeat' (conv => whnf); first
             | (apply And.intro; · first | exact Nat.le_of_ble_eq_true rfl | (show indep _ _ = true; kernel_rfl) | decide | exact pL)
             | (apply Exists.intro; apply And.intro; · first | exact rfl)
             | fail
            all_goals try rw [hw]
            all_goals exact ih ⟨i + 1, e.v, true⟩ ⟨hgo, hz1, fun _ => ⟨hz2, e, hx, rfl⟩, fun h => absurd h (Nat.succ_ne_zero _), hg2⟩ (by show l.length - (i + 1) < l.length - i; omega)
          | false =>
            have hz1 : 0 ≤ e.v := by omega
            have hz2 : 1 ≤ e.v := by omega
            refine VLoop.unroll hE mixed ?_
            repeat' (conv => whnf); first
             | (refine bcase_of (fun hr => ?_) (fun hr => ?_) <;> (try simp only [decide_eq_true_eq, decide_eq_false_iff_not, beq_iff_eq, beq_eq_false_iff_ne, ne_eq, bne_iff_ne, bne_eq_false_iff_eq, Bool.not_eq_true, ge_iff_le, gt_iff_lt] at hr) <;> try (exfalso; first | omega | exact hr rfl | (simp at hr; done) | (simp_all; done) | (simp at hr; omega)))
             | (apply And.intro; · first | exact Nat.le_of_ble_eq_true rfl | (show indep _ _ = true; kernel_rfl) | decide | exact ⟨by decide, by decide⟩ | exact ⟨Nat.le_of_ble_eq_true rfl, allOne_of rfl⟩ | exact allOne_of rfl | exact ⟨by omega, by omega⟩ | exact ⟨by omega, by rw [lL]; omega⟩ | exact pp | exact pq)
             | (apply Exists.intro; apply And.intro; · first | exact rfl | exact cK | exact cI | exact cW | exact hYt rfl | exact hYf rfl | exact gi | exact gj)
             | rw [hw]
             | rw [hwj]
             | fail
            all_goals (conv => whnf)
            all_goals refine VLoop.norm [0, 1, 5, 6] [] ?_
            repeat' (conv => whnf); first
             | (apply And.intro; · first | exact Nat.le_of_ble_eq_true rfl | (show indep _ _ = true; kernel_rfl) | decide | exact pL)
             | (apply Exists.intro; apply And.intro; · first | exact rfl)
             | fail
            all_goals try rw [hw]
            all_goals exact ih ⟨i + 1, e.v, false⟩ ⟨hgo, hz1, fun _ => ⟨hz2, e, hx, rfl⟩, fun h => absurd h (Nat.succ_ne_zero _), hg2⟩ (by show l.length - (i + 1) < l.length - i; omega)
        · obtain rfl := hg3 rfl
          skip
          cases I with
          | true =>
            refine VLoop.unroll hE mixed ?_
            repeat' (conv => whnf); first
             | (refine bcase_of (fun hr => ?_) (fun hr => ?_) <;> (try simp only [decide_eq_true_eq, decide_eq_false_iff_not, beq_iff_eq, beq_eq_false_iff_ne, ne_eq, bne_iff_ne, bne_eq_false_iff_eq, Bool.not_eq_true, ge_iff_le, gt_iff_lt] at hr) <;> try (exfalso; first | omega | exact hr rfl | (simp at hr; done) | (simp_all; done) | (simp at hr; omega)))
             | (apply And.intro; · first | exact Nat.le_of_ble_eq_true rfl | (show indep _ _ = true; kernel_rfl) | decide | exact ⟨by decide, by decide⟩ | exact ⟨Nat.le_of_ble_eq_true rfl, allOne_of rfl⟩ | exact allOne_of rfl | exact ⟨by omega, by omega⟩ | exact ⟨by omega, by rw [lL]; omega⟩ | exact pp | exact pq)
             | (apply Exists.intro; apply And.intro; · first | exact rfl | exact cK | exact cI | exact cW | exact hYt rfl | exact hYf rfl | exact gi | exact gj)
             | rw [hw]
             | rw [hwj]
             | fail
            all_goals (conv => whnf)
            all_goals rfl
          | false =>
            refine VLoop.unroll hE mixed ?_
            repeat' (conv => whnf); first
             | (refine bcase_of (fun hr => ?_) (fun hr => ?_) <;> (try simp only [decide_eq_true_eq, decide_eq_false_iff_not, beq_iff_eq, beq_eq_false_iff_ne, ne_eq, bne_iff_ne, bne_eq_false_iff_eq, Bool.not_eq_true, ge_iff_le, gt_iff_lt] at hr) <;> try (exfalso; first | omega | exact hr rfl | (simp at hr; done) | (simp_all; done) | (simp at hr; omega)))
             | (apply And.intro; · first | exact Nat.le_of_ble_eq_true rfl | (show indep _ _ = true; kernel_rfl) | decide | exact ⟨by decide, by decide⟩ | exact ⟨Nat.le_of_ble_eq_true rfl, allOne_of rfl⟩ | exact allOne_of rfl | exact ⟨by omega, by omega⟩ | exact ⟨by omega, by rw [lL]; omega⟩ | exact pp | exact pq)
             | (apply Exists.intro; apply And.intro; · first | exact rfl | exact cK | exact cI | exact cW | exact hYt rfl | exact hYf rfl | exact gi | exact gj)
             | rw [hw]
             | rw [hwj]
             | fail
            all_goals (conv => whnf)
            all_goals rfl
        · obtain rfl := hg3 rfl
          skip
          cases I with
          | true =>
            refine VLoop.unroll hE mixed ?_
            repeat' (conv => whnf); first
             | (refine bcase_of (fun hr => ?_) (fun hr => ?_) <;> (try simp only [decide_eq_true_eq, decide_eq_false_iff_not, beq_iff_eq, beq_eq_false_iff_ne, ne_eq, bne_iff_ne, bne_eq_false_iff_eq, Bool.not_eq_true, ge_iff_le, gt_iff_lt] at hr) <;> try (exfalso; first | omega | exact hr rfl | (simp at hr; done) | (simp_all; done) | (simp at hr; omega)))
             | (apply And.intro; · first | exact Nat.le_of_ble_eq_true rfl | (show indep _ _ = true; kernel_rfl) | decide | exact ⟨by decide, by decide⟩ | exact ⟨Nat.le_of_ble_eq_true rfl, allOne_of rfl⟩ | exact allOne_of rfl | exact ⟨by omega, by omega⟩ | exact ⟨by omega, by rw [lL]; omega⟩ | exact pp | exact pq)
             | (apply Exists.intro; apply And.intro; · first | exact rfl | exact cK | exact cI | exact cW | exact hYt rfl | exact hYf rfl | exact gi | exact gj)
             | rw [hw]
             | rw [hwj]
             | fail
            all_goals (conv => whnf)
            all_goals rfl
          | false =>
            refine VLoop.unroll hE mixed ?_
            repeat' (conv => whnf); first
             | (refine bcase_of (fun hr => ?_) (fun hr => ?_) <;> (try simp only [decide_eq_true_eq, decide_eq_false_iff_not, beq_iff_eq, beq_eq_false_iff_ne, ne_eq, bne_iff_ne, bne_eq_false_iff_eq, Bool.not_eq_true, ge_iff_le, gt_iff_lt] at hr) <;> try (exfalso; first | omega | exact hr rfl | (simp at hr; done) | (simp_all; done) | (simp at hr; omega)))
             | (apply And.intro; · first | exact Nat.le_of_ble_eq_true rfl | (show indep _ _ = true; kernel_rfl) | decide | exact ⟨by decide, by decide⟩ | exact ⟨Nat.le_of_ble_eq_true rfl, allOne_of rfl⟩ | exact allOne_of rfl | exact ⟨by omega, by omega⟩ | exact ⟨by omega, by rw [lL]; omega⟩ | exact pp | exact pq)
             | (apply Exists.intro; apply And.intro; · first | exact rfl | exact cK | exact cI | exact cW | exact hYt rfl | exact hYf rfl | exact gi | exact gj)
             | rw [hw]
             | rw [hwj]
             | fail
            all_goals (conv => whnf)
            all_goals rfl
        · have hg2 := hg2 rfl
          skip
          cases I with
          | true =>
            have hz1 : 0 ≤ e.v := by omega
            have hz2 : 1 ≤ e.v := by omega
            refine VLoop.unroll hE mixed ?_
            repeat' (conv => whnf); first
             | (refine bcase_of (fun hr => ?_) (fun hr => ?_) <;> (try simp only [decide_eq_true_eq, decide_eq_false_iff_not, beq_iff_eq, beq_eq_false_iff_ne, ne_eq, bne_iff_ne, bne_eq_false_iff_eq, Bool.not_eq_true, ge_iff_le, gt_iff_lt] at hr) <;> try (exfalso; first | omega | exact hr rfl | (simp at hr; done) | (simp_all; done) | (simp at hr; omega)))
             | (apply And.intro; · first | exact Nat.le_of_ble_eq_true rfl | (show indep _ _ = true; kernel_rfl) | decide | exact ⟨by decide, by decide⟩ | exact ⟨Nat.le_of_ble_eq_true rfl, allOne_of rfl⟩ | exact allOne_of rfl | exact ⟨by omega, by omega⟩ | exact ⟨by omega, by rw [lL]; omega⟩ | exact pp | exact pq)
             | (apply Exists.intro; apply And.intro; · first | exact rfl | exact cK | exact cI | exact cW | exact hYt rfl | exact hYf rfl | exact gi | exact gj)
             | rw [hw]
             | rw [hwj]
             | fail
            all_goals (conv => whnf)
            all_goals refine VLoop.norm [0, 1, 5, 6] [] ?_
            repeat' (conv => whnf); first
             | (apply And.intro; · first | exact Nat.le_of_ble_eq_true rfl | (show indep _ _ = true; kernel_rfl) | decide | exact pL)
             | (apply Exists.intro; apply And.intro; · first | exact rfl)
             | fail
            all_goals try rw [hw]
            all_goals exact ih ⟨i + 1, e.v, true⟩ ⟨hgo, hz1, fun _ => ⟨hz2, e, hx, rfl⟩, fun h => absurd h (Nat.succ_ne_zero _), hg2⟩ (by show l.length - (i + 1) < l.length - i; omega)
          | false =>
            have hz1 : 0 ≤ e.v := by omega
            have hz2 : 1 ≤ e.v := by omega
            refine VLoop.unroll hE mixed ?_
            repeat' (conv => whnf); first
             | (refine bcase_of (fun hr => ?_) (fun hr => ?_) <;> (try simp only [decide_eq_true_eq, decide_eq_false_iff_not, beq_iff_eq, beq_eq_false_iff_ne, ne_eq, bne_iff_ne, bne_eq_false_iff_eq, Bool.not_eq_true, ge_iff_le, gt_iff_lt] at hr) <;> try (exfalso; first | omega | exact hr rfl | (simp at hr; done) | (simp_all; done) | (simp at hr; omega)))
             | (apply And.intro; · first | exact Nat.le_of_ble_eq_true rfl | (show indep _ _ = true; kernel_rfl) | decide | exact ⟨by decide, by decide⟩ | exact ⟨Nat.le_of_ble_eq_true rfl, allOne_of rfl⟩ | exact allOne_of rfl | exact ⟨by omega, by omega⟩ | exact ⟨by omega, by rw [lL]; omega⟩ | exact pp | exact pq)
             | (apply Exists.intro; apply And.intro; · first | exact rfl | exact cK | exact cI | exact cW | exact hYt rfl | exact hYf rfl | exact gi | exact gj)
             | rw [hw]
             | rw [hwj]
             | fail
            all_goals (conv => whnf)
            all_goals refine VLoop.norm [0, 1, 5, 6] [] ?_
            repeat' (conv => whnf); first
             | (apply And.intro; · first | exact Nat.le_of_ble_eq_true rfl | (show indep _ _ = true; kernel_rfl) | decide | exact pL)
             | (apply Exists.intro; apply And.intro; · first | exact rfl)
             | fail
            all_goals try rw [hw]
            all_goals exact ih ⟨i + 1, e.v, false⟩ ⟨hgo, hz1, fun _ => ⟨hz2, e, hx, rfl⟩, fun h => absurd h (Nat.succ_ne_zero _), hg2⟩ (by show l.length - (i + 1) < l.length - i; omega)
end Go.Proofs.YtbppemcdphgknaaDoor
/- Chapter 13: the last one that is not above. -/
namespace Go.Proofs.YtbppemcdphgknaaDoor
open Go Go.Vm
set_option maxRecDepth 100000
set_option maxHeartbeats 40000000
set_option linter.unusedSimpArgs false
set_option linter.unusedVariables false
/-- The place behind the last entry that is not above a version. -/
def cutN (ver : Int) : List En → Nat
  | [] => 0
  | e :: r => if e.v ≤ ver then cutN ver r + 1 else 0
theorem gch_rise {m : Int} : ∀ {l : List En} {f : Bool} {v : Int} {p : Bool}, gch m f v p l = true → (∀ e ∈ l, v < e.v) ∧ l.Pairwise fun a b => a.v < b.v
  | [], _, _, _, _ => ⟨(fun e h => by cases h), List.Pairwise.nil⟩
  | e :: r, f, v, p, h => by
    simp only [gch, Bool.and_eq_true, decide_eq_true_eq] at h
    obtain ⟨i1, i2⟩ := gch_rise h.2
    have h1 := h.1.1.1.1
    refine ⟨fun x hx => ?_, List.pairwise_cons.2 ⟨i1, i2⟩⟩
    rcases List.mem_cons.1 hx with rfl | hx
    · exact h1
    · have := i1 x hx; omega
def Rise (l : List En) : Prop := l.Pairwise fun a b => a.v < b.v
theorem good_rise {m : Int} {l : List En} (h : goodL m l = true) : Rise l ∧ ∀ e ∈ l, 1 ≤ e.v := by
  simp only [goodL, Bool.and_eq_true] at h
  obtain ⟨h1, h2⟩ := gch_rise h.2
  exact ⟨h2, fun e he => by have := h1 e he; omega⟩
theorem cut_le (ver : Int) : ∀ l : List En, cutN ver l ≤ l.length
  | [] => Nat.le_refl _
  | e :: r => by
    have := cut_le ver r
    simp only [cutN]
    split <;> simp <;> omega
theorem cut_spec {ver : Int} : ∀ {l : List En}, Rise l → ∀ (i : Nat) (e : En), l[i]? = some e → (e.v ≤ ver ↔ i < cutN ver l)
  | [], _, i, e, h => by simp at h
  | x :: r, hr, i, e, h => by
    have hr' := List.pairwise_cons.1 hr
    simp only [cutN]
    cases i with
    | zero =>
      simp at h; subst h
      split <;> simp <;> omega
    | succ i =>
      have h' : r[i]? = some e := by simpa using h
      have ih := cut_spec (ver := ver) hr'.2 i e h'
      split
      · rw [ih]; omega
      · have := hr'.1 e (List.mem_of_getElem? h')
        simp; omega
def stLast (l : List En) (ver : Int) (k : Nat) : St DV := mkSt 23 [(0, chV l), (1, i64V ver), (5, i64V ((k : Int) - 1))] [] []
def stAt (l : List En) (ver k : Int) (i : Nat) : St DV := mkSt 22 [(0, chV l), (1, i64V ver), (5, i64V k), (6, i64V i)] [] []
theorem last_ok (l : List En) (ver : Int) (hl : l.length ≤ 1000000) (hr : Rise l) : PTriple Tryd.prog gv 49 [chV l, i64V ver] (i64V ((cutN ver l : Int) - 1)) := by
  have pL := pure_E l
  have lL := lenE l
  have hcl := cut_le ver l
  have hw0 : IntKind.i64.wrap (((l.map encE).length : Int) - 1) = ((l.length : Nat) : Int) - 1 := by rw [lL]; exact wrap64 (by omega) (by omega)
  refine PTriple.of_body (C := cx) Tryd.func49 rfl (by kernel_rfl) mixed fun E hE => ?_
  repeat' (conv => whnf); first
   | (refine bcase_of (fun hr => ?_) (fun hr => ?_) <;> (try simp only [decide_eq_true_eq, decide_eq_false_iff_not, beq_iff_eq, beq_eq_false_iff_ne, ne_eq, bne_iff_ne, bne_eq_false_iff_eq, Bool.not_eq_true, ge_iff_le, gt_iff_lt] at hr) <;> try (exfalso; first | omega | exact hr rfl | (simp at hr; done) | (simp at hr; omega)))
   | (apply And.intro; · first | exact Nat.le_of_ble_eq_true rfl | (show indep _ _ = true; kernel_rfl) | decide | exact ⟨by decide, by decide⟩ | exact ⟨Nat.le_of_ble_eq_true rfl, allOne_of rfl⟩ | exact allOne_of rfl | exact ⟨by omega, by omega⟩ | exact ⟨by omega, by rw [lL]; omega⟩)
   | (apply Exists.intro; apply And.intro; · first | exact rfl)
   | rw [hw0]
   | fail
  all_goals (conv => whnf)
  refine VLoop.norm [0, 1, 5] [] ?_
  repeat' (conv => whnf); first
   | (apply And.intro; · first | exact Nat.le_of_ble_eq_true rfl | (show indep _ _ = true; kernel_rfl) | decide | exact pL)
   | (apply Exists.intro; apply And.intro; · first | exact rfl)
   | fail
  refine VLoop.inv (fun k : Nat => stLast l ver k) (fun k => cutN ver l ≤ k ∧ k ≤ l.length) (fun k => k) l.length ⟨hcl, Nat.le_refl _⟩ (by first | rfl | (rw [hw0]; rfl)) ?_
  intro k ⟨hk1, hk2⟩ ih
  by_cases hgo : cutN ver l < k
  case pos =>
    have hw : IntKind.i64.wrap (((k : Int) - 1) - 1) = ((k - 1 : Nat) : Int) - 1 := by rw [wrap64 (by omega) (by omega)]; omega
    obtain ⟨e, hx⟩ : ∃ x, l[k - 1]? = some x := ⟨_, List.getElem?_eq_getElem (by omega)⟩
    have gi := getEc hx
    rw [show ((k - 1 : Nat) : Int) = (k : Int) - 1 by omega] at gi
    have hs := cut_spec (ver := ver) hr (k - 1) e hx
    have hev : ver < e.v := by omega
    refine VLoop.unroll hE mixed ?_
    repeat' (conv => whnf); first
     | (refine bcase_of (fun hr => ?_) (fun hr => ?_) <;> (try simp only [decide_eq_true_eq, decide_eq_false_iff_not, beq_iff_eq, beq_eq_false_iff_ne, ne_eq, bne_iff_ne, bne_eq_false_iff_eq, Bool.not_eq_true, ge_iff_le, gt_iff_lt] at hr) <;> try (exfalso; first | omega | exact hr rfl | (simp at hr; done) | (simp at hr; omega)))
     | (apply And.intro; · first | exact Nat.le_of_ble_eq_true rfl | (show indep _ _ = true; kernel_rfl) | decide | exact ⟨by decide, by decide⟩ | exact ⟨Nat.le_of_ble_eq_true rfl, allOne_of rfl⟩ | exact allOne_of rfl | exact ⟨by omega, by omega⟩ | exact ⟨by omega, by rw [lL]; omega⟩)
     | (apply Exists.intro; apply And.intro; · first | exact rfl | exact gi)
     | rw [hw]
     | fail
    all_goals (conv => whnf)
    refine VLoop.norm [0, 1, 5] [] ?_
    repeat' (conv => whnf); first
     | (apply And.intro; · first | exact Nat.le_of_ble_eq_true rfl | (show indep _ _ = true; kernel_rfl) | decide | exact pL)
     | (apply Exists.intro; apply And.intro; · first | exact rfl)
     | fail
    try rw [hw]
    exact ih (k - 1) ⟨by omega, by omega⟩ (by omega)
  case neg =>
    obtain rfl : k = cutN ver l := by omega
    refine VLoop.unroll hE mixed ?_
    by_cases h0 : cutN ver l = 0
    · skip
      repeat' (conv => whnf); first
       | (refine bcase_of (fun hr => ?_) (fun hr => ?_) <;> (try simp only [decide_eq_true_eq, decide_eq_false_iff_not, beq_iff_eq, beq_eq_false_iff_ne, ne_eq, bne_iff_ne, bne_eq_false_iff_eq, Bool.not_eq_true, ge_iff_le, gt_iff_lt] at hr) <;> try (exfalso; first | omega | exact hr rfl | (simp at hr; done) | (simp at hr; omega)))
       | (apply And.intro; · first | exact Nat.le_of_ble_eq_true rfl | (show indep _ _ = true; kernel_rfl) | decide | exact ⟨by decide, by decide⟩ | exact ⟨Nat.le_of_ble_eq_true rfl, allOne_of rfl⟩ | exact allOne_of rfl | exact ⟨by omega, by omega⟩ | exact ⟨by omega, by rw [lL]; omega⟩)
       | (apply Exists.intro; apply And.intro; · first | exact rfl)
       | fail
      all_goals (conv => whnf)
      all_goals rfl
    · obtain ⟨e, hx⟩ : ∃ x, l[cutN ver l - 1]? = some x := ⟨_, List.getElem?_eq_getElem (by omega)⟩
      have gi := getEc hx
      rw [show ((cutN ver l - 1 : Nat) : Int) = (cutN ver l : Int) - 1 by omega] at gi
      have hs := cut_spec (ver := ver) hr _ e hx
      have hev : e.v ≤ ver := by omega
      repeat' (conv => whnf); first
       | (refine bcase_of (fun hr => ?_) (fun hr => ?_) <;> (try simp only [decide_eq_true_eq, decide_eq_false_iff_not, beq_iff_eq, beq_eq_false_iff_ne, ne_eq, bne_iff_ne, bne_eq_false_iff_eq, Bool.not_eq_true, ge_iff_le, gt_iff_lt] at hr) <;> try (exfalso; first | omega | exact hr rfl | (simp at hr; done) | (simp at hr; omega)))
       | (apply And.intro; · first | exact Nat.le_of_ble_eq_true rfl | (show indep _ _ = true; kernel_rfl) | decide | exact ⟨by decide, by decide⟩ | exact ⟨Nat.le_of_ble_eq_true rfl, allOne_of rfl⟩ | exact allOne_of rfl | exact ⟨by omega, by omega⟩ | exact ⟨by omega, by rw [lL]; omega⟩)
       | (apply Exists.intro; apply And.intro; · first | exact rfl | exact gi)
       | fail
      all_goals (conv => whnf)
      all_goals rfl
theorem at13_ok (l : List En) (ver : Int) (hl : l.length ≤ 1000000) (hr : Rise l) : PTriple Tryd.prog gv 51 [chV l, i64V ver] (i64V ((cutN ver l : Int) - 1)) := by
  have pL := pure_E l
  have lL := lenE l
  have hcl := cut_le ver l
  refine PTriple.of_body (C := cx) Tryd.func51 rfl (by kernel_rfl) mixed fun E hE => ?_
  repeat' (conv => whnf); first
   | (refine bcase_of (fun hr => ?_) (fun hr => ?_) <;> (try simp only [decide_eq_true_eq, decide_eq_false_iff_not, beq_iff_eq, beq_eq_false_iff_ne, ne_eq, bne_iff_ne, bne_eq_false_iff_eq, Bool.not_eq_true, ge_iff_le, gt_iff_lt] at hr) <;> try (exfalso; first | omega | exact hr rfl | (simp at hr; done) | (simp at hr; omega)))
   | (apply And.intro; · first | exact Nat.le_of_ble_eq_true rfl | (show indep _ _ = true; kernel_rfl) | decide | exact ⟨by decide, by decide⟩ | exact ⟨Nat.le_of_ble_eq_true rfl, allOne_of rfl⟩ | exact allOne_of rfl | exact ⟨by omega, by omega⟩ | exact ⟨by omega, by rw [lL]; omega⟩)
   | (apply Exists.intro; apply And.intro; · first | exact rfl)
   | fail
  all_goals (conv => whnf)
  refine VLoop.norm [0, 1, 5, 6] [] ?_
  repeat' (conv => whnf); first
   | (apply And.intro; · first | exact Nat.le_of_ble_eq_true rfl | (show indep _ _ = true; kernel_rfl) | decide | exact pL)
   | (apply Exists.intro; apply And.intro; · first | exact rfl)
   | fail
  refine VLoop.inv (fun i : Nat => stAt l ver ((min i (cutN ver l) : Nat) - 1) i) (fun i => i ≤ l.length) (fun i => l.length - i) 0 (Nat.zero_le _) (by rw [Nat.zero_min]; rfl) ?_
  intro i hi ih
  by_cases hgo : i < l.length
  case pos =>
    have hw : IntKind.i64.wrap ((i : Int) + 1) = ((i + 1 : Nat) : Int) := wrap64 (by omega) (by omega)
    obtain ⟨e, hx⟩ : ∃ x, l[i]? = some x := ⟨_, List.getElem?_eq_getElem hgo⟩
    have gi := getEc hx
    have hs := cut_spec (ver := ver) hr i e hx
    have ih' := ih (i + 1) hgo (by omega)
    by_cases hc : i < cutN ver l
    · have hev := hs.2 hc
      rw [show ((min (i + 1) (cutN ver l) : Nat) : Int) - 1 = (i : Int) by omega] at ih'
      refine VLoop.unroll hE mixed ?_
      repeat' (conv => whnf); first
       | (refine bcase_of (fun hr => ?_) (fun hr => ?_) <;> (try simp only [decide_eq_true_eq, decide_eq_false_iff_not, beq_iff_eq, beq_eq_false_iff_ne, ne_eq, bne_iff_ne, bne_eq_false_iff_eq, Bool.not_eq_true, ge_iff_le, gt_iff_lt] at hr) <;> try (exfalso; first | omega | exact hr rfl | (simp at hr; done) | (simp at hr; omega)))
       | (apply And.intro; · first | exact Nat.le_of_ble_eq_true rfl | (show indep _ _ = true; kernel_rfl) | decide | exact ⟨by decide, by decide⟩ | exact ⟨Nat.le_of_ble_eq_true rfl, allOne_of rfl⟩ | exact allOne_of rfl | exact ⟨by omega, by omega⟩ | exact ⟨by omega, by rw [lL]; omega⟩)
       | (apply Exists.intro; apply And.intro; · first | exact rfl | exact gi)
       | rw [hw]
       | fail
      all_goals (conv => whnf)
      refine VLoop.norm [0, 1, 5, 6] [] ?_
      repeat' (conv => whnf); first
       | (apply And.intro; · first | exact Nat.le_of_ble_eq_true rfl | (show indep _ _ = true; kernel_rfl) | decide | exact pL)
       | (apply Exists.intro; apply And.intro; · first | exact rfl)
       | fail
      try rw [hw]
      exact ih'
    · have hev : ¬ e.v ≤ ver := fun h => hc (hs.1 h)
      rw [show min (i + 1) (cutN ver l) = min i (cutN ver l) by omega] at ih'
      refine VLoop.unroll hE mixed ?_
      repeat' (conv => whnf); first
       | (refine bcase_of (fun hr => ?_) (fun hr => ?_) <;> (try simp only [decide_eq_true_eq, decide_eq_false_iff_not, beq_iff_eq, beq_eq_false_iff_ne, ne_eq, bne_iff_ne, bne_eq_false_iff_eq, Bool.not_eq_true, ge_iff_le, gt_iff_lt] at hr) <;> try (exfalso; first | omega | exact hr rfl | (simp at hr; done) | (simp at hr; omega)))
       | (apply And.intro; · first | exact Nat.le_of_ble_eq_true rfl | (show indep _ _ = true; kernel_rfl) | decide | exact ⟨by decide, by decide⟩ | exact ⟨Nat.le_of_ble_eq_true rfl, allOne_of rfl⟩ | exact allOne_of rfl | exact ⟨by omega, by omega⟩ | exact ⟨by omega, by rw [lL]; omega⟩)
       | (apply Exists.intro; apply And.intro; · first | exact rfl | exact gi)
       | rw [hw]
       | fail
      all_goals (conv => whnf)
      refine VLoop.norm [0, 1, 5, 6] [] ?_
      repeat' (conv => whnf); first
       | (apply And.intro; · first | exact Nat.le_of_ble_eq_true rfl | (show indep _ _ = true; kernel_rfl) | decide | exact pL)
       | (apply Exists.intro; apply And.intro; · first | exact rfl)
       | fail
      try rw [hw]
      exact ih'
  case neg =>
    have e : min i (cutN ver l) = cutN ver l := by omega
    rw [e]
    refine VLoop.unroll hE mixed ?_
    repeat' (conv => whnf); first
     | (refine bcase_of (fun hr => ?_) (fun hr => ?_) <;> (try simp only [decide_eq_true_eq, decide_eq_false_iff_not, beq_iff_eq, beq_eq_false_iff_ne, ne_eq, bne_iff_ne, bne_eq_false_iff_eq, Bool.not_eq_true, ge_iff_le, gt_iff_lt] at hr) <;> try (exfalso; first | omega | exact hr rfl | (simp at hr; done) | (simp at hr; omega)))
     | (apply And.intro; · first | exact Nat.le_of_ble_eq_true rfl | (show indep _ _ = true; kernel_rfl) | decide | exact ⟨by decide, by decide⟩ | exact ⟨Nat.le_of_ble_eq_true rfl, allOne_of rfl⟩ | exact allOne_of rfl | exact ⟨by omega, by omega⟩ | exact ⟨by omega, by rw [lL]; omega⟩)
     | (apply Exists.intro; apply And.intro; · first | exact rfl)
     | fail
    all_goals (conv => whnf)
    all_goals rfl
end Go.Proofs.YtbppemcdphgknaaDoor
/- Chapter 13: At. -/
namespace Go.Proofs.YtbppemcdphgknaaDoor
open Go Go.Vm
set_option maxRecDepth 100000
set_option maxHeartbeats 40000000
set_option linter.unusedSimpArgs false
set_option linter.unusedVariables false
/-- The entry that is there at a version. -/
def atS (m : Int) (l : List En) (ver : Int) : Option En := match goodL m l with
  | false => none
  | true => match cutN ver l with
    | 0 => none
    | k + 1 => match l[k]? with
      | none => none
      | some e => match is e.o with
        | true => some e
        | false => none
def atV : Option En → V
  | none => .tup [cellV 0 0 0 [] [], .bool false]
  | some e => .tup [cellV e.n e.a e.b e.p e.q, .bool true]
def atV9 : Option En → V
  | none => .agg [i64V 0, i64V 0, i64V 0, .nils, .nils, .bool false]
  | some e => .agg [i64V e.n, i64V e.a, i64V e.b, bagV e.p, bagV e.q, .bool true]
def ChIn (l : List En) : Prop := l.length ≤ 900 ∧ ∀ e ∈ l, EnIn e
def lastU (ver : Int) (l : List En) : Nat → Int
  | 0 => -1
  | i + 1 => match l[i]? with
    | none => lastU ver l i
    | some e => if e.v ≤ ver then (i : Int) else lastU ver l i
theorem at13_any (l : List En) (ver : Int) (hl : l.length ≤ 1000000) : PTriple Tryd.prog gv 51 [chV l, i64V ver] (i64V (lastU ver l l.length)) := by
  have pL := pure_E l
  have lL := lenE l
  refine PTriple.of_body (C := cx) Tryd.func51 rfl (by kernel_rfl) mixed fun E hE => ?_
  repeat' (conv => whnf); first
   | (refine bcase_of (fun hr => ?_) (fun hr => ?_) <;> (try simp only [decide_eq_true_eq, decide_eq_false_iff_not, beq_iff_eq, beq_eq_false_iff_ne, ne_eq, bne_iff_ne, bne_eq_false_iff_eq, Bool.not_eq_true, ge_iff_le, gt_iff_lt] at hr) <;> try (exfalso; first | omega | exact hr rfl | (simp at hr; done) | (simp at hr; omega)))
   | (apply And.intro; · first | exact Nat.le_of_ble_eq_true rfl | (show indep _ _ = true; kernel_rfl) | decide | exact ⟨by decide, by decide⟩ | exact ⟨Nat.le_of_ble_eq_true rfl, allOne_of rfl⟩ | exact allOne_of rfl | exact ⟨by omega, by omega⟩ | exact ⟨by omega, by rw [lL]; omega⟩)
   | (apply Exists.intro; apply And.intro; · first | exact rfl)
   | fail
  all_goals (conv => whnf)
  refine VLoop.norm [0, 1, 5, 6] [] ?_
  repeat' (conv => whnf); first
   | (apply And.intro; · first | exact Nat.le_of_ble_eq_true rfl | (show indep _ _ = true; kernel_rfl) | decide | exact pL)
   | (apply Exists.intro; apply And.intro; · first | exact rfl)
   | fail
  refine VLoop.inv (fun i : Nat => stAt l ver (lastU ver l i) i) (fun i => i ≤ l.length) (fun i => l.length - i) 0 (Nat.zero_le _) rfl ?_
  intro i hi ih
  by_cases hgo : i < l.length
  case pos =>
    have hw : IntKind.i64.wrap ((i : Int) + 1) = ((i + 1 : Nat) : Int) := wrap64 (by omega) (by omega)
    obtain ⟨e, hx⟩ : ∃ x, l[i]? = some x := ⟨_, List.getElem?_eq_getElem hgo⟩
    have gi := getEc hx
    have ih' := ih (i + 1) hgo (by omega)
    rw [show lastU ver l (i + 1) = if e.v ≤ ver then (i : Int) else lastU ver l i by simp only [lastU, hx]] at ih'
    by_cases hev : e.v ≤ ver
    · rw [if_pos hev] at ih'
      refine VLoop.unroll hE mixed ?_
      repeat' (conv => whnf); first
       | (refine bcase_of (fun hr => ?_) (fun hr => ?_) <;> (try simp only [decide_eq_true_eq, decide_eq_false_iff_not, beq_iff_eq, beq_eq_false_iff_ne, ne_eq, bne_iff_ne, bne_eq_false_iff_eq, Bool.not_eq_true, ge_iff_le, gt_iff_lt] at hr) <;> try (exfalso; first | omega | exact hr rfl | (simp at hr; done) | (simp at hr; omega)))
       | (apply And.intro; · first | exact Nat.le_of_ble_eq_true rfl | (show indep _ _ = true; kernel_rfl) | decide | exact ⟨by decide, by decide⟩ | exact ⟨Nat.le_of_ble_eq_true rfl, allOne_of rfl⟩ | exact allOne_of rfl | exact ⟨by omega, by omega⟩ | exact ⟨by omega, by rw [lL]; omega⟩)
       | (apply Exists.intro; apply And.intro; · first | exact rfl | exact gi)
       | rw [hw]
       | fail
      all_goals (conv => whnf)
      refine VLoop.norm [0, 1, 5, 6] [] ?_
      repeat' (conv => whnf); first
       | (apply And.intro; · first | exact Nat.le_of_ble_eq_true rfl | (show indep _ _ = true; kernel_rfl) | decide | exact pL)
       | (apply Exists.intro; apply And.intro; · first | exact rfl)
       | fail
      try rw [hw]
      exact ih'
    · rw [if_neg hev] at ih'
      refine VLoop.unroll hE mixed ?_
      repeat' (conv => whnf); first
       | (refine bcase_of (fun hr => ?_) (fun hr => ?_) <;> (try simp only [decide_eq_true_eq, decide_eq_false_iff_not, beq_iff_eq, beq_eq_false_iff_ne, ne_eq, bne_iff_ne, bne_eq_false_iff_eq, Bool.not_eq_true, ge_iff_le, gt_iff_lt] at hr) <;> try (exfalso; first | omega | exact hr rfl | (simp at hr; done) | (simp at hr; omega)))
       | (apply And.intro; · first | exact Nat.le_of_ble_eq_true rfl | (show indep _ _ = true; kernel_rfl) | decide | exact ⟨by decide, by decide⟩ | exact ⟨Nat.le_of_ble_eq_true rfl, allOne_of rfl⟩ | exact allOne_of rfl | exact ⟨by omega, by omega⟩ | exact ⟨by omega, by rw [lL]; omega⟩)
       | (apply Exists.intro; apply And.intro; · first | exact rfl | exact gi)
       | rw [hw]
       | fail
      all_goals (conv => whnf)
      refine VLoop.norm [0, 1, 5, 6] [] ?_
      repeat' (conv => whnf); first
       | (apply And.intro; · first | exact Nat.le_of_ble_eq_true rfl | (show indep _ _ = true; kernel_rfl) | decide | exact pL)
       | (apply Exists.intro; apply And.intro; · first | exact rfl)
       | fail
      try rw [hw]
      exact ih'
  case neg =>
    obtain rfl : i = l.length := by omega
    refine VLoop.unroll hE mixed ?_
    repeat' (conv => whnf); first
     | (refine bcase_of (fun hr => ?_) (fun hr => ?_) <;> (try simp only [decide_eq_true_eq, decide_eq_false_iff_not, beq_iff_eq, beq_eq_false_iff_ne, ne_eq, bne_iff_ne, bne_eq_false_iff_eq, Bool.not_eq_true, ge_iff_le, gt_iff_lt] at hr) <;> try (exfalso; first | omega | exact hr rfl | (simp at hr; done) | (simp at hr; omega)))
     | (apply And.intro; · first | exact Nat.le_of_ble_eq_true rfl | (show indep _ _ = true; kernel_rfl) | decide | exact ⟨by decide, by decide⟩ | exact ⟨Nat.le_of_ble_eq_true rfl, allOne_of rfl⟩ | exact allOne_of rfl | exact ⟨by omega, by omega⟩ | exact ⟨by omega, by rw [lL]; omega⟩)
     | (apply Exists.intro; apply And.intro; · first | exact rfl)
     | fail
    all_goals (conv => whnf)
    all_goals rfl
theorem At_ok (m : Int) (l : List En) (ver : Int) (h : ChIn l) : PTriple Tryd.prog gv 15 [i64V m, chV l, i64V ver] (atV (atS m l ver)) := by
  obtain ⟨hl, hin⟩ := h
  have pL := pure_E l
  have lL := lenE l
  have cG := goodL_ok m l (by omega) hin
  unfold atS
  cases hg : goodL m l with
  | false =>
    rw [hg] at cG
    refine PTriple.zres (b := .bool false) ?_
    refine PTriple.of_body (C := cx) Tryd.func15 rfl (by kernel_rfl) mixed fun E hE => ?_
    repeat' (conv => whnf); first
     | (refine bcase_of (fun hr => ?_) (fun hr => ?_) <;> (try simp only [decide_eq_true_eq, decide_eq_false_iff_not, beq_iff_eq, beq_eq_false_iff_ne, ne_eq, bne_iff_ne, bne_eq_false_iff_eq, Bool.not_eq_true, ge_iff_le, gt_iff_lt] at hr) <;> try (exfalso; first | omega | exact hr rfl | (simp at hr; done) | (simp at hr; omega)))
     | (apply And.intro; · first | exact Nat.le_of_ble_eq_true rfl | (show indep _ _ = true; kernel_rfl) | decide | exact ⟨by decide, by decide⟩ | exact ⟨Nat.le_of_ble_eq_true rfl, allOne_of rfl⟩ | exact allOne_of rfl | exact ⟨by omega, by omega⟩ | exact ⟨by omega, by rw [lL]; omega⟩ | exact pL | exact pp | exact pq)
     | (apply Exists.intro; apply And.intro; · first | exact rfl | exact cG)
     | fail
    all_goals (conv => whnf)
    all_goals rfl
  | true =>
    rw [hg] at cG
    have hr := (good_rise hg).1
    have cL := last_ok l ver (by omega) hr
    have hcl := cut_le ver l
    simp only
    cases hc : cutN ver l with
    | zero =>
      rw [hc] at cL
      refine PTriple.zres (b := .bool false) ?_
      refine PTriple.of_body (C := cx) Tryd.func15 rfl (by kernel_rfl) mixed fun E hE => ?_
      repeat' (conv => whnf); first
       | (refine bcase_of (fun hr => ?_) (fun hr => ?_) <;> (try simp only [decide_eq_true_eq, decide_eq_false_iff_not, beq_iff_eq, beq_eq_false_iff_ne, ne_eq, bne_iff_ne, bne_eq_false_iff_eq, Bool.not_eq_true, ge_iff_le, gt_iff_lt] at hr) <;> try (exfalso; first | omega | exact hr rfl | (simp at hr; done) | (simp at hr; omega)))
       | (apply And.intro; · first | exact Nat.le_of_ble_eq_true rfl | (show indep _ _ = true; kernel_rfl) | decide | exact ⟨by decide, by decide⟩ | exact ⟨Nat.le_of_ble_eq_true rfl, allOne_of rfl⟩ | exact allOne_of rfl | exact ⟨by omega, by omega⟩ | exact ⟨by omega, by rw [lL]; omega⟩ | exact pL | exact pp | exact pq)
       | (apply Exists.intro; apply And.intro; · first | exact rfl | exact cG | exact cL)
       | fail
      all_goals (conv => whnf)
      all_goals rfl
    | succ k =>
      rw [hc] at cL hcl
      rw [show ((k + 1 : Nat) : Int) - 1 = (k : Int) by omega] at cL
      obtain ⟨e, hx⟩ : ∃ x, l[k]? = some x := ⟨_, List.getElem?_eq_getElem (by omega)⟩
      have gi := getEc hx
      have he := hin e (List.mem_of_getElem? hx)
      have pp := pure_R e.p
      have pq := pure_R e.q
      have cI := ok43 e.o
      have cC := cells_ok e.n e.a e.b e.p e.q he.lp he.lq
      simp only [hx]
      cases hi : is e.o with
      | false =>
        rw [hi] at cI
        refine PTriple.zres (b := .bool false) ?_
        refine PTriple.of_body (C := cx) Tryd.func15 rfl (by kernel_rfl) mixed fun E hE => ?_
        repeat' (conv => whnf); first
         | (refine bcase_of (fun hr => ?_) (fun hr => ?_) <;> (try simp only [decide_eq_true_eq, decide_eq_false_iff_not, beq_iff_eq, beq_eq_false_iff_ne, ne_eq, bne_iff_ne, bne_eq_false_iff_eq, Bool.not_eq_true, ge_iff_le, gt_iff_lt] at hr) <;> try (exfalso; first | omega | exact hr rfl | (simp at hr; done) | (simp at hr; omega)))
         | (apply And.intro; · first | exact Nat.le_of_ble_eq_true rfl | (show indep _ _ = true; kernel_rfl) | decide | exact ⟨by decide, by decide⟩ | exact ⟨Nat.le_of_ble_eq_true rfl, allOne_of rfl⟩ | exact allOne_of rfl | exact ⟨by omega, by omega⟩ | exact ⟨by omega, by rw [lL]; omega⟩ | exact pL | exact pp | exact pq)
         | (apply Exists.intro; apply And.intro; · first | exact rfl | exact cG | exact cL | exact cI | exact gi)
         | fail
        all_goals (conv => whnf)
        all_goals rfl
      | true =>
        rw [hi] at cI
        refine PTriple.of_body (C := cx) Tryd.func15 rfl (by kernel_rfl) mixed fun E hE => ?_
        repeat' (conv => whnf); first
         | (refine bcase_of (fun hr => ?_) (fun hr => ?_) <;> (try simp only [decide_eq_true_eq, decide_eq_false_iff_not, beq_iff_eq, beq_eq_false_iff_ne, ne_eq, bne_iff_ne, bne_eq_false_iff_eq, Bool.not_eq_true, ge_iff_le, gt_iff_lt] at hr) <;> try (exfalso; first | omega | exact hr rfl | (simp at hr; done) | (simp at hr; omega)))
         | (apply And.intro; · first | exact Nat.le_of_ble_eq_true rfl | (show indep _ _ = true; kernel_rfl) | decide | exact ⟨by decide, by decide⟩ | exact ⟨Nat.le_of_ble_eq_true rfl, allOne_of rfl⟩ | exact allOne_of rfl | exact ⟨by omega, by omega⟩ | exact ⟨by omega, by rw [lL]; omega⟩ | exact pL | exact pp | exact pq)
         | (apply Exists.intro; apply And.intro; · first | exact rfl | exact cG | exact cL | exact cI | exact cC | exact gi)
         | fail
        all_goals (conv => whnf)
        all_goals rfl
theorem At13_ok (m : Int) (l : List En) (ver : Int) (h : ChIn l) : PTriple Tryd.prog gv 16 [i64V m, chV l, i64V ver] (atV9 (atS m l ver)) := by
  obtain ⟨hl, hin⟩ := h
  have pL := pure_E l
  have lL := lenE l
  have cG := goodL13_ok m l (by omega) hin
  have hcl := cut_le ver l
  unfold atS
  cases hg : goodL m l with
  | false =>
    rw [hg] at cG
    have cL := at13_any l ver (by omega)
    generalize lastU ver l l.length = kk at cL
    refine PTriple.of_body (C := cx) Tryd.func16 rfl (by kernel_rfl) mixed fun E hE => ?_
    repeat' (conv => whnf); first
     | (refine bcase_of (fun hr => ?_) (fun hr => ?_) <;> (try simp only [decide_eq_true_eq, decide_eq_false_iff_not, beq_iff_eq, beq_eq_false_iff_ne, ne_eq, bne_iff_ne, bne_eq_false_iff_eq, Bool.not_eq_true, ge_iff_le, gt_iff_lt] at hr) <;> try (exfalso; first | omega | exact hr rfl | (simp at hr; done) | (simp at hr; omega)))
     | (apply And.intro; · first | exact Nat.le_of_ble_eq_true rfl | (show indep _ _ = true; kernel_rfl) | decide | exact ⟨by decide, by decide⟩ | exact ⟨Nat.le_of_ble_eq_true rfl, allOne_of rfl⟩ | exact allOne_of rfl | exact ⟨by omega, by omega⟩ | exact ⟨by omega, by rw [lL]; omega⟩ | exact pL | exact pp | exact pq)
     | (apply Exists.intro; apply And.intro; · first | exact rfl | exact cG | exact cL)
     | fail
    all_goals (conv => whnf)
    all_goals rfl
  | true =>
    rw [hg] at cG
    have cL := at13_ok l ver (by omega) (good_rise hg).1
    simp only
    cases hc : cutN ver l with
    | zero =>
      rw [hc] at cL
      refine PTriple.of_body (C := cx) Tryd.func16 rfl (by kernel_rfl) mixed fun E hE => ?_
      repeat' (conv => whnf); first
       | (refine bcase_of (fun hr => ?_) (fun hr => ?_) <;> (try simp only [decide_eq_true_eq, decide_eq_false_iff_not, beq_iff_eq, beq_eq_false_iff_ne, ne_eq, bne_iff_ne, bne_eq_false_iff_eq, Bool.not_eq_true, ge_iff_le, gt_iff_lt] at hr) <;> try (exfalso; first | omega | exact hr rfl | (simp at hr; done) | (simp at hr; omega)))
       | (apply And.intro; · first | exact Nat.le_of_ble_eq_true rfl | (show indep _ _ = true; kernel_rfl) | decide | exact ⟨by decide, by decide⟩ | exact ⟨Nat.le_of_ble_eq_true rfl, allOne_of rfl⟩ | exact allOne_of rfl | exact ⟨by omega, by omega⟩ | exact ⟨by omega, by rw [lL]; omega⟩ | exact pL | exact pp | exact pq)
       | (apply Exists.intro; apply And.intro; · first | exact rfl | exact cG | exact cL)
       | fail
      all_goals (conv => whnf)
      all_goals rfl
    | succ k =>
      rw [hc] at cL hcl
      rw [show ((k + 1 : Nat) : Int) - 1 = (k : Int) by omega] at cL
      obtain ⟨e, hx⟩ : ∃ x, l[k]? = some x := ⟨_, List.getElem?_eq_getElem (by omega)⟩
      have gi := getEc hx
      have pp := pure_R e.p
      have pq := pure_R e.q
      have cI := ok46 e.o
      simp only [hx]
      cases hi : is e.o with
      | false =>
        rw [hi] at cI
        refine PTriple.of_body (C := cx) Tryd.func16 rfl (by kernel_rfl) mixed fun E hE => ?_
        repeat' (conv => whnf); first
         | (refine bcase_of (fun hr => ?_) (fun hr => ?_) <;> (try simp only [decide_eq_true_eq, decide_eq_false_iff_not, beq_iff_eq, beq_eq_false_iff_ne, ne_eq, bne_iff_ne, bne_eq_false_iff_eq, Bool.not_eq_true, ge_iff_le, gt_iff_lt] at hr) <;> try (exfalso; first | omega | exact hr rfl | (simp at hr; done) | (simp at hr; omega)))
         | (apply And.intro; · first | exact Nat.le_of_ble_eq_true rfl | (show indep _ _ = true; kernel_rfl) | decide | exact ⟨by decide, by decide⟩ | exact ⟨Nat.le_of_ble_eq_true rfl, allOne_of rfl⟩ | exact allOne_of rfl | exact ⟨by omega, by omega⟩ | exact ⟨by omega, by rw [lL]; omega⟩ | exact pL | exact pp | exact pq)
         | (apply Exists.intro; apply And.intro; · first | exact rfl | exact cG | exact cL | exact cI | exact gi)
         | fail
        all_goals (conv => whnf)
        all_goals rfl
      | true =>
        rw [hi] at cI
        refine PTriple.of_body (C := cx) Tryd.func16 rfl (by kernel_rfl) mixed fun E hE => ?_
        repeat' (conv => whnf); first
         | (refine bcase_of (fun hr => ?_) (fun hr => ?_) <;> (try simp only [decide_eq_true_eq, decide_eq_false_iff_not, beq_iff_eq, beq_eq_false_iff_ne, ne_eq, bne_iff_ne, bne_eq_false_iff_eq, Bool.not_eq_true, ge_iff_le, gt_iff_lt] at hr) <;> try (exfalso; first | omega | exact hr rfl | (simp at hr; done) | (simp at hr; omega)))
         | (apply And.intro; · first | exact Nat.le_of_ble_eq_true rfl | (show indep _ _ = true; kernel_rfl) | decide | exact ⟨by decide, by decide⟩ | exact ⟨Nat.le_of_ble_eq_true rfl, allOne_of rfl⟩ | exact allOne_of rfl | exact ⟨by omega, by omega⟩ | exact ⟨by omega, by rw [lL]; omega⟩ | exact pL | exact pp | exact pq)
         | (apply Exists.intro; apply And.intro; · first | exact rfl | exact cG | exact cL | exact cI | exact gi)
         | fail
        all_goals (conv => whnf)
        all_goals rfl
end Go.Proofs.YtbppemcdphgknaaDoor
/- Chapter 13: Undo, Prune. -/
namespace Go.Proofs.YtbppemcdphgknaaDoor
open Go Go.Vm
set_option maxRecDepth 100000
set_option maxHeartbeats 40000000
set_option linter.unusedSimpArgs false
set_option linter.unusedVariables false
def undoS (m : Int) (l : List En) (ver : Int) : List En := match goodL m l with
  | false => []
  | true => match l[l.length - 1]? with
    | none => l
    | some e => if e.v = ver then l.take (l.length - 1) else l
def pruneS (m : Int) (l : List En) (floor : Int) : List En := match goodL m l with
  | false => []
  | true => match cutN floor l with
    | 0 => l
    | k + 1 => match l[k]? with
      | none => l
      | some e => if e.o = 3 then l.drop (k + 1) else l.drop k
theorem ChIn.take {l : List En} (h : ChIn l) (k : Nat) : ChIn (l.take k) := ⟨by have := h.1; simp; omega, fun e he => h.2 e (List.mem_of_mem_take he)⟩
theorem ChIn.drop {l : List En} (h : ChIn l) (k : Nat) : ChIn (l.drop k) := ⟨by have := h.1; simp; omega, fun e he => h.2 e (List.mem_of_mem_drop he)⟩
theorem copyIn {l : List En} (h : ChIn l) : PTriple Tryd.prog gv 53 [chV l] (chV l) := copy_ok l (by have := h.1; omega) fun e he => ⟨(h.2 e he).lp, (h.2 e he).lq⟩
theorem take_enc (l : List En) (k : Nat) : ((l.map encE).drop 0).take (k - 0) = (l.take k).map encE := by rw [List.drop_zero, Nat.sub_zero, List.map_take]
theorem drop_enc (l : List En) (k : Nat) : ((l.map encE).drop k).take ((l.map encE).length - k) = (l.drop k).map encE := by
  rw [List.take_of_length_le (by simp), List.map_drop]
theorem drop_enc2 (l : List En) (k : Nat) (a : Nat) : ((((l.map encE).drop k).take ((l.map encE).length - k)).drop a).take ((((l.map encE).drop k).take ((l.map encE).length - k)).length - a) = (l.drop (k + a)).map encE := by
  rw [drop_enc, drop_enc, List.drop_drop]
theorem Undo_ok (m : Int) (l : List En) (ver : Int) (h : ChIn l) : PTriple Tryd.prog gv 19 [i64V m, chV l, i64V ver] (chV (undoS m l ver)) := by
  have hl := h.1
  have pL := pure_E l
  have lL := lenE l
  have cG := goodL_ok m l (by omega) h.2
  unfold undoS
  cases hg : goodL m l with
  | false =>
    rw [hg] at cG
    refine PTriple.to_lst ?_
    refine PTriple.of_body (C := cx) Tryd.func19 rfl (by kernel_rfl) mixed fun E hE => ?_
    repeat' (conv => whnf); first
     | (refine bcase_of (fun hr => ?_) (fun hr => ?_) <;> (try simp only [decide_eq_true_eq, decide_eq_false_iff_not, beq_iff_eq, beq_eq_false_iff_ne, ne_eq, bne_iff_ne, bne_eq_false_iff_eq, Bool.not_eq_true, ge_iff_le, gt_iff_lt] at hr) <;> try (exfalso; first | omega | exact hr rfl | (simp at hr; done) | (simp at hr; omega)))
     | (apply And.intro; · first | exact Nat.le_of_ble_eq_true rfl | (show indep _ _ = true; kernel_rfl) | decide | exact ⟨by decide, by decide⟩ | exact ⟨Nat.le_of_ble_eq_true rfl, allOne_of rfl⟩ | exact allOne_of rfl | exact ⟨by omega, by omega⟩ | exact ⟨by omega, by rw [lL]; omega⟩ | exact pL | exact pp | exact pq)
     | (apply Exists.intro; apply And.intro; · first | exact rfl | exact cG)
     | fail
    all_goals (conv => whnf)
    all_goals rfl
  | true =>
    rw [hg] at cG
    simp only
    have hw0 : IntKind.i64.wrap (((l.map encE).length : Int) - 1) = ((l.length : Nat) : Int) - 1 := by rw [lL]; exact wrap64 (by omega) (by omega)
    cases hx : l[l.length - 1]? with
    | none =>
      have hn : l.length = 0 := by
        rcases Nat.eq_zero_or_pos l.length with h0 | h0
        · exact h0
        · rw [List.getElem?_eq_getElem (by omega)] at hx; cases hx
      have cC := copyIn h
      refine PTriple.of_body (C := cx) Tryd.func19 rfl (by kernel_rfl) mixed fun E hE => ?_
      repeat' (conv => whnf); first
       | (refine bcase_of (fun hr => ?_) (fun hr => ?_) <;> (try simp only [decide_eq_true_eq, decide_eq_false_iff_not, beq_iff_eq, beq_eq_false_iff_ne, ne_eq, bne_iff_ne, bne_eq_false_iff_eq, Bool.not_eq_true, ge_iff_le, gt_iff_lt] at hr) <;> try (exfalso; first | omega | exact hr rfl | (simp at hr; done) | (simp at hr; omega)))
       | (apply And.intro; · first | exact Nat.le_of_ble_eq_true rfl | (show indep _ _ = true; kernel_rfl) | decide | exact ⟨by decide, by decide⟩ | exact ⟨Nat.le_of_ble_eq_true rfl, allOne_of rfl⟩ | exact allOne_of rfl | exact ⟨by omega, by omega⟩ | exact ⟨by omega, by rw [lL]; omega⟩ | exact pL | exact pp | exact pq)
       | (apply Exists.intro; apply And.intro; · first | exact rfl | exact cG | exact cC)
       | rw [hw0]
       | fail
      all_goals (conv => whnf)
      all_goals rfl
    | some e =>
      have hlt := (List.getElem?_eq_some_iff.1 hx).1
      have gi := getEc hx
      rw [show ((l.length - 1 : Nat) : Int) = (l.length : Int) - 1 by omega] at gi
      simp only
      by_cases hv : e.v = ver
      · rw [if_pos hv]
        have cC := copyIn (h.take (l.length - 1))
        have hN : ((l.length : Int) - 1).toNat = l.length - 1 := by omega
        have e1 : ((l.map encE).drop 0).take (((l.length : Int) - 1).toNat - 0) = (l.take (l.length - 1)).map encE := by rw [hN]; exact take_enc l _
        have p1 : PureEs (((l.map encE).drop 0).take (((l.length : Int) - 1).toNat - 0)) := by rw [e1]; exact pure_E _
        have cC2 : PTriple Tryd.prog gv 53 [.lst 7 (((l.map encE).drop 0).take (((l.length : Int) - 1).toNat - 0))] (chV (l.take (l.length - 1))) := by rw [e1]; exact cC
        refine PTriple.of_body (C := cx) Tryd.func19 rfl (by kernel_rfl) mixed fun E hE => ?_
        repeat' (conv => whnf); first
         | (refine bcase_of (fun hr => ?_) (fun hr => ?_) <;> (try simp only [decide_eq_true_eq, decide_eq_false_iff_not, beq_iff_eq, beq_eq_false_iff_ne, ne_eq, bne_iff_ne, bne_eq_false_iff_eq, Bool.not_eq_true, ge_iff_le, gt_iff_lt] at hr) <;> try (exfalso; first | omega | exact hr rfl | (simp at hr; done) | (simp at hr; omega)))
         | (apply And.intro; · first | exact Nat.le_of_ble_eq_true rfl | (show indep _ _ = true; kernel_rfl) | decide | exact ⟨by decide, by decide⟩ | exact ⟨Nat.le_of_ble_eq_true rfl, allOne_of rfl⟩ | exact allOne_of rfl | exact ⟨by omega, by omega⟩ | exact ⟨by omega, by rw [lL]; omega⟩ | exact pL | exact pp | exact pq | exact p1 | exact pure_E _ | exact ⟨by omega, by rw [lL]; omega⟩)
         | (apply Exists.intro; apply And.intro; · first | exact rfl | exact cG | exact cC2 | exact gi)
         | rw [hw0]
         | fail
        all_goals (conv => whnf)
        all_goals rfl
      · rw [if_neg hv]
        have cC := copyIn h
        refine PTriple.of_body (C := cx) Tryd.func19 rfl (by kernel_rfl) mixed fun E hE => ?_
        repeat' (conv => whnf); first
         | (refine bcase_of (fun hr => ?_) (fun hr => ?_) <;> (try simp only [decide_eq_true_eq, decide_eq_false_iff_not, beq_iff_eq, beq_eq_false_iff_ne, ne_eq, bne_iff_ne, bne_eq_false_iff_eq, Bool.not_eq_true, ge_iff_le, gt_iff_lt] at hr) <;> try (exfalso; first | omega | exact hr rfl | (simp at hr; done) | (simp at hr; omega)))
         | (apply And.intro; · first | exact Nat.le_of_ble_eq_true rfl | (show indep _ _ = true; kernel_rfl) | decide | exact ⟨by decide, by decide⟩ | exact ⟨Nat.le_of_ble_eq_true rfl, allOne_of rfl⟩ | exact allOne_of rfl | exact ⟨by omega, by omega⟩ | exact ⟨by omega, by rw [lL]; omega⟩ | exact pL | exact pp | exact pq)
         | (apply Exists.intro; apply And.intro; · first | exact rfl | exact cG | exact cC | exact gi)
         | rw [hw0]
         | fail
        all_goals (conv => whnf)
        all_goals rfl
theorem Undo13_ok (m : Int) (l : List En) (ver : Int) (h : ChIn l) : PTriple Tryd.prog gv 20 [i64V m, chV l, i64V ver] (chV (undoS m l ver)) := by
  have hl := h.1
  have pL := pure_E l
  have lL := lenE l
  have cG := goodL13_ok m l (by omega) h.2
  unfold undoS
  cases hg : goodL m l with
  | false =>
    rw [hg] at cG
    refine PTriple.to_lst ?_
    refine PTriple.of_body (C := cx) Tryd.func20 rfl (by kernel_rfl) mixed fun E hE => ?_
    repeat' (conv => whnf); first
     | (refine bcase_of (fun hr => ?_) (fun hr => ?_) <;> (try simp only [decide_eq_true_eq, decide_eq_false_iff_not, beq_iff_eq, beq_eq_false_iff_ne, ne_eq, bne_iff_ne, bne_eq_false_iff_eq, Bool.not_eq_true, ge_iff_le, gt_iff_lt] at hr) <;> try (exfalso; first | omega | exact hr rfl | (simp at hr; done) | (simp at hr; omega)))
     | (apply And.intro; · first | exact Nat.le_of_ble_eq_true rfl | (show indep _ _ = true; kernel_rfl) | decide | exact ⟨by decide, by decide⟩ | exact ⟨Nat.le_of_ble_eq_true rfl, allOne_of rfl⟩ | exact allOne_of rfl | exact ⟨by omega, by omega⟩ | exact ⟨by omega, by rw [lL]; omega⟩ | exact pL | exact pp | exact pq)
     | (apply Exists.intro; apply And.intro; · first | exact rfl | exact cG)
     | fail
    all_goals (conv => whnf)
    all_goals rfl
  | true =>
    rw [hg] at cG
    simp only
    have hw0 : IntKind.i64.wrap (((l.map encE).length : Int) - 1) = ((l.length : Nat) : Int) - 1 := by rw [lL]; exact wrap64 (by omega) (by omega)
    cases hx : l[l.length - 1]? with
    | none =>
      have hn : l.length = 0 := by
        rcases Nat.eq_zero_or_pos l.length with h0 | h0
        · exact h0
        · rw [List.getElem?_eq_getElem (by omega)] at hx; cases hx
      have cC := copyIn h
      refine PTriple.of_body (C := cx) Tryd.func20 rfl (by kernel_rfl) mixed fun E hE => ?_
      repeat' (conv => whnf); first
       | (refine bcase_of (fun hr => ?_) (fun hr => ?_) <;> (try simp only [decide_eq_true_eq, decide_eq_false_iff_not, beq_iff_eq, beq_eq_false_iff_ne, ne_eq, bne_iff_ne, bne_eq_false_iff_eq, Bool.not_eq_true, ge_iff_le, gt_iff_lt] at hr) <;> try (exfalso; first | omega | exact hr rfl | (simp at hr; done) | (simp at hr; omega)))
       | (apply And.intro; · first | exact Nat.le_of_ble_eq_true rfl | (show indep _ _ = true; kernel_rfl) | decide | exact ⟨by decide, by decide⟩ | exact ⟨Nat.le_of_ble_eq_true rfl, allOne_of rfl⟩ | exact allOne_of rfl | exact ⟨by omega, by omega⟩ | exact ⟨by omega, by rw [lL]; omega⟩ | exact pL | exact pp | exact pq)
       | (apply Exists.intro; apply And.intro; · first | exact rfl | exact cG | exact cC)
       | rw [hw0]
       | fail
      all_goals (conv => whnf)
      all_goals rfl
    | some e =>
      have hlt := (List.getElem?_eq_some_iff.1 hx).1
      have gi := getEc hx
      rw [show ((l.length - 1 : Nat) : Int) = (l.length : Int) - 1 by omega] at gi
      simp only
      by_cases hv : e.v = ver
      · rw [if_pos hv]
        have cC := copyIn (h.take (l.length - 1))
        have hN : ((l.length : Int) - 1).toNat = l.length - 1 := by omega
        have e1 : ((l.map encE).drop 0).take (((l.length : Int) - 1).toNat - 0) = (l.take (l.length - 1)).map encE := by rw [hN]; exact take_enc l _
        have p1 : PureEs (((l.map encE).drop 0).take (((l.length : Int) - 1).toNat - 0)) := by rw [e1]; exact pure_E _
        have cC2 : PTriple Tryd.prog gv 53 [.lst 7 (((l.map encE).drop 0).take (((l.length : Int) - 1).toNat - 0))] (chV (l.take (l.length - 1))) := by rw [e1]; exact cC
        refine PTriple.of_body (C := cx) Tryd.func20 rfl (by kernel_rfl) mixed fun E hE => ?_
        repeat' (conv => whnf); first
         | (refine bcase_of (fun hr => ?_) (fun hr => ?_) <;> (try simp only [decide_eq_true_eq, decide_eq_false_iff_not, beq_iff_eq, beq_eq_false_iff_ne, ne_eq, bne_iff_ne, bne_eq_false_iff_eq, Bool.not_eq_true, ge_iff_le, gt_iff_lt] at hr) <;> try (exfalso; first | omega | exact hr rfl | (simp at hr; done) | (simp at hr; omega)))
         | (apply And.intro; · first | exact Nat.le_of_ble_eq_true rfl | (show indep _ _ = true; kernel_rfl) | decide | exact ⟨by decide, by decide⟩ | exact ⟨Nat.le_of_ble_eq_true rfl, allOne_of rfl⟩ | exact allOne_of rfl | exact ⟨by omega, by omega⟩ | exact ⟨by omega, by rw [lL]; omega⟩ | exact pL | exact pp | exact pq | exact p1 | exact pure_E _ | exact ⟨by omega, by rw [lL]; omega⟩)
         | (apply Exists.intro; apply And.intro; · first | exact rfl | exact cG | exact cC2 | exact gi)
         | rw [hw0]
         | fail
        all_goals (conv => whnf)
        all_goals first | rfl | (show V.lst 7 _ = V.lst 7 _; exact congrArg _ e1)
      · rw [if_neg hv]
        have cC := copyIn h
        refine PTriple.of_body (C := cx) Tryd.func20 rfl (by kernel_rfl) mixed fun E hE => ?_
        repeat' (conv => whnf); first
         | (refine bcase_of (fun hr => ?_) (fun hr => ?_) <;> (try simp only [decide_eq_true_eq, decide_eq_false_iff_not, beq_iff_eq, beq_eq_false_iff_ne, ne_eq, bne_iff_ne, bne_eq_false_iff_eq, Bool.not_eq_true, ge_iff_le, gt_iff_lt] at hr) <;> try (exfalso; first | omega | exact hr rfl | (simp at hr; done) | (simp at hr; omega)))
         | (apply And.intro; · first | exact Nat.le_of_ble_eq_true rfl | (show indep _ _ = true; kernel_rfl) | decide | exact ⟨by decide, by decide⟩ | exact ⟨Nat.le_of_ble_eq_true rfl, allOne_of rfl⟩ | exact allOne_of rfl | exact ⟨by omega, by omega⟩ | exact ⟨by omega, by rw [lL]; omega⟩ | exact pL | exact pp | exact pq)
         | (apply Exists.intro; apply And.intro; · first | exact rfl | exact cG | exact cC | exact gi)
         | rw [hw0]
         | fail
        all_goals (conv => whnf)
        all_goals rfl
theorem Prune_ok (m : Int) (l : List En) (floor : Int) (h : ChIn l) : PTriple Tryd.prog gv 21 [i64V m, chV l, i64V floor] (chV (pruneS m l floor)) := by
  have hl := h.1
  have pL := pure_E l
  have lL := lenE l
  have cG := goodL_ok m l (by omega) h.2
  have hcl := cut_le floor l
  unfold pruneS
  cases hg : goodL m l with
  | false =>
    rw [hg] at cG
    refine PTriple.to_lst ?_
    refine PTriple.of_body (C := cx) Tryd.func21 rfl (by kernel_rfl) mixed fun E hE => ?_
    repeat' (conv => whnf); first
     | (refine bcase_of (fun hr => ?_) (fun hr => ?_) <;> (try simp only [decide_eq_true_eq, decide_eq_false_iff_not, beq_iff_eq, beq_eq_false_iff_ne, ne_eq, bne_iff_ne, bne_eq_false_iff_eq, Bool.not_eq_true, ge_iff_le, gt_iff_lt] at hr) <;> try (exfalso; first | omega | exact hr rfl | (simp at hr; done) | (simp at hr; omega)))
     | (apply And.intro; · first | exact Nat.le_of_ble_eq_true rfl | (show indep _ _ = true; kernel_rfl) | decide | exact ⟨by decide, by decide⟩ | exact ⟨Nat.le_of_ble_eq_true rfl, allOne_of rfl⟩ | exact allOne_of rfl | exact ⟨by omega, by omega⟩ | exact ⟨by omega, by rw [lL]; omega⟩ | exact pL | exact pp | exact pq)
     | (apply Exists.intro; apply And.intro; · first | exact rfl | exact cG)
     | fail
    all_goals (conv => whnf)
    all_goals rfl
  | true =>
    rw [hg] at cG
    have cL := last_ok l floor (by omega) (good_rise hg).1
    simp only
    cases hc : cutN floor l with
    | zero =>
      rw [hc] at cL
      have cC := copyIn h
      refine PTriple.of_body (C := cx) Tryd.func21 rfl (by kernel_rfl) mixed fun E hE => ?_
      repeat' (conv => whnf); first
       | (refine bcase_of (fun hr => ?_) (fun hr => ?_) <;> (try simp only [decide_eq_true_eq, decide_eq_false_iff_not, beq_iff_eq, beq_eq_false_iff_ne, ne_eq, bne_iff_ne, bne_eq_false_iff_eq, Bool.not_eq_true, ge_iff_le, gt_iff_lt] at hr) <;> try (exfalso; first | omega | exact hr rfl | (simp at hr; done) | (simp at hr; omega)))
       | (apply And.intro; · first | exact Nat.le_of_ble_eq_true rfl | (show indep _ _ = true; kernel_rfl) | decide | exact ⟨by decide, by decide⟩ | exact ⟨Nat.le_of_ble_eq_true rfl, allOne_of rfl⟩ | exact allOne_of rfl | exact ⟨by omega, by omega⟩ | exact ⟨by omega, by rw [lL]; omega⟩ | exact pL | exact pp | exact pq)
       | (apply Exists.intro; apply And.intro; · first | exact rfl | exact cG | exact cL | exact cC)
       | fail
      all_goals (conv => whnf)
      all_goals rfl
    | succ k =>
      rw [hc] at cL hcl
      rw [show ((k + 1 : Nat) : Int) - 1 = (k : Int) by omega] at cL
      obtain ⟨e, hx⟩ : ∃ x, l[k]? = some x := ⟨_, List.getElem?_eq_getElem (by omega)⟩
      have gi := getEc hx
      simp only [hx]
      have hw : IntKind.i64.wrap ((k : Int) + 1) = ((k + 1 : Nat) : Int) := wrap64 (by omega) (by omega)
      have e1 : ((l.map encE).drop k).take ((l.map encE).length - k) = (l.drop k).map encE := drop_enc l k
      have e1' : ((l.map encE).drop (k + 1)).take ((l.map encE).length - (k + 1)) = (l.drop (k + 1)).map encE := drop_enc l (k + 1)
      have e2 := drop_enc2 l k 1
      have p1 : PureEs (((l.map encE).drop k).take ((l.map encE).length - k)) := by rw [e1]; exact pure_E _
      have p2 : PureEs (((((l.map encE).drop k).take ((l.map encE).length - k)).drop 1).take ((((l.map encE).drop k).take ((l.map encE).length - k)).length - 1)) := by rw [e2]; exact pure_E _
      have p1' : PureEs (((l.map encE).drop (k + 1)).take ((l.map encE).length - (k + 1))) := by rw [e1']; exact pure_E _
      have l1 : (((l.map encE).drop k).take ((l.map encE).length - k)).length = l.length - k := by rw [e1]; simp
      have hI0 : (0 : Int) < ((((l.map encE).drop k).take ((l.map encE).length - k)).length : Int) := by rw [l1]; omega
      have g0 : lget (((l.map encE).drop k).take ((l.map encE).length - k)) (0 : Int).toNat = some [i64V e.v, i64V e.o, i64V e.n, i64V e.a, i64V e.b, bagV e.p, bagV e.q] := by
        rw [e1]
        exact getEc (i := 0) (by rw [List.getElem?_drop]; exact hx)
      have c1 : PTriple Tryd.prog gv 53 [.lst 7 (((l.map encE).drop k).take ((l.map encE).length - k))] (chV (l.drop k)) := by rw [e1]; exact copyIn (h.drop k)
      have c2 : PTriple Tryd.prog gv 53 [.lst 7 (((((l.map encE).drop k).take ((l.map encE).length - k)).drop 1).take ((((l.map encE).drop k).take ((l.map encE).length - k)).length - 1))] (chV (l.drop (k + 1))) := by rw [e2]; exact copyIn (h.drop (k + 1))
      by_cases ho : e.o = 3
      · rw [if_pos ho]
        refine PTriple.of_body (C := cx) Tryd.func21 rfl (by kernel_rfl) mixed fun E hE => ?_
        repeat' (conv => whnf); first
         | (refine bcase_of (fun hr => ?_) (fun hr => ?_) <;> (try simp only [decide_eq_true_eq, decide_eq_false_iff_not, beq_iff_eq, beq_eq_false_iff_ne, ne_eq, bne_iff_ne, bne_eq_false_iff_eq, Bool.not_eq_true, ge_iff_le, gt_iff_lt] at hr) <;> try (exfalso; first | omega | exact hr rfl | (simp at hr; done) | (simp at hr; omega)))
         | (apply And.intro; · first | exact Nat.le_of_ble_eq_true rfl | (show indep _ _ = true; kernel_rfl) | decide | exact ⟨by decide, by decide⟩ | exact ⟨Nat.le_of_ble_eq_true rfl, allOne_of rfl⟩ | exact allOne_of rfl | exact ⟨by omega, by omega⟩ | exact ⟨by omega, by rw [lL]; omega⟩ | exact pL | exact pp | exact pq | exact p1 | exact p2 | exact p1' | exact pure_E _ | exact ⟨by decide, hI0⟩)
         | (apply Exists.intro; apply And.intro; · first | exact rfl | exact cG | exact cL | exact c1 | exact c2 | exact gi | exact g0)
         | rw [hw]
         | fail
        all_goals (conv => whnf)
        all_goals rfl
      · rw [if_neg ho]
        refine PTriple.of_body (C := cx) Tryd.func21 rfl (by kernel_rfl) mixed fun E hE => ?_
        repeat' (conv => whnf); first
         | (refine bcase_of (fun hr => ?_) (fun hr => ?_) <;> (try simp only [decide_eq_true_eq, decide_eq_false_iff_not, beq_iff_eq, beq_eq_false_iff_ne, ne_eq, bne_iff_ne, bne_eq_false_iff_eq, Bool.not_eq_true, ge_iff_le, gt_iff_lt] at hr) <;> try (exfalso; first | omega | exact hr rfl | (simp at hr; done) | (simp at hr; omega)))
         | (apply And.intro; · first | exact Nat.le_of_ble_eq_true rfl | (show indep _ _ = true; kernel_rfl) | decide | exact ⟨by decide, by decide⟩ | exact ⟨Nat.le_of_ble_eq_true rfl, allOne_of rfl⟩ | exact allOne_of rfl | exact ⟨by omega, by omega⟩ | exact ⟨by omega, by rw [lL]; omega⟩ | exact pL | exact pp | exact pq | exact p1 | exact p2 | exact p1' | exact pure_E _ | exact ⟨by decide, hI0⟩)
         | (apply Exists.intro; apply And.intro; · first | exact rfl | exact cG | exact cL | exact c1 | exact gi | exact g0)
         | rw [hw]
         | fail
        all_goals (conv => whnf)
        all_goals rfl
theorem Prune13_ok (m : Int) (l : List En) (floor : Int) (h : ChIn l) : PTriple Tryd.prog gv 22 [i64V m, chV l, i64V floor] (chV (pruneS m l floor)) := by
  have hl := h.1
  have pL := pure_E l
  have lL := lenE l
  have cG := goodL13_ok m l (by omega) h.2
  have hcl := cut_le floor l
  unfold pruneS
  cases hg : goodL m l with
  | false =>
    rw [hg] at cG
    refine PTriple.to_lst ?_
    refine PTriple.of_body (C := cx) Tryd.func22 rfl (by kernel_rfl) mixed fun E hE => ?_
    repeat' (conv => whnf); first
     | (refine bcase_of (fun hr => ?_) (fun hr => ?_) <;> (try simp only [decide_eq_true_eq, decide_eq_false_iff_not, beq_iff_eq, beq_eq_false_iff_ne, ne_eq, bne_iff_ne, bne_eq_false_iff_eq, Bool.not_eq_true, ge_iff_le, gt_iff_lt] at hr) <;> try (exfalso; first | omega | exact hr rfl | (simp at hr; done) | (simp at hr; omega)))
     | (apply And.intro; · first | exact Nat.le_of_ble_eq_true rfl | (show indep _ _ = true; kernel_rfl) | decide | exact ⟨by decide, by decide⟩ | exact ⟨Nat.le_of_ble_eq_true rfl, allOne_of rfl⟩ | exact allOne_of rfl | exact ⟨by omega, by omega⟩ | exact ⟨by omega, by rw [lL]; omega⟩ | exact pL | exact pp | exact pq)
     | (apply Exists.intro; apply And.intro; · first | exact rfl | exact cG)
     | fail
    all_goals (conv => whnf)
    all_goals rfl
  | true =>
    rw [hg] at cG
    have cL := at13_ok l floor (by omega) (good_rise hg).1
    simp only
    cases hc : cutN floor l with
    | zero =>
      rw [hc] at cL
      have cC := copyIn h
      refine PTriple.of_body (C := cx) Tryd.func22 rfl (by kernel_rfl) mixed fun E hE => ?_
      repeat' (conv => whnf); first
       | (refine bcase_of (fun hr => ?_) (fun hr => ?_) <;> (try simp only [decide_eq_true_eq, decide_eq_false_iff_not, beq_iff_eq, beq_eq_false_iff_ne, ne_eq, bne_iff_ne, bne_eq_false_iff_eq, Bool.not_eq_true, ge_iff_le, gt_iff_lt] at hr) <;> try (exfalso; first | omega | exact hr rfl | (simp at hr; done) | (simp at hr; omega)))
       | (apply And.intro; · first | exact Nat.le_of_ble_eq_true rfl | (show indep _ _ = true; kernel_rfl) | decide | exact ⟨by decide, by decide⟩ | exact ⟨Nat.le_of_ble_eq_true rfl, allOne_of rfl⟩ | exact allOne_of rfl | exact ⟨by omega, by omega⟩ | exact ⟨by omega, by rw [lL]; omega⟩ | exact pL | exact pp | exact pq)
       | (apply Exists.intro; apply And.intro; · first | exact rfl | exact cG | exact cL | exact cC)
       | fail
      all_goals (conv => whnf)
      all_goals rfl
    | succ k =>
      rw [hc] at cL hcl
      rw [show ((k + 1 : Nat) : Int) - 1 = (k : Int) by omega] at cL
      obtain ⟨e, hx⟩ : ∃ x, l[k]? = some x := ⟨_, List.getElem?_eq_getElem (by omega)⟩
      have gi := getEc hx
      simp only [hx]
      have hw : IntKind.i64.wrap ((k : Int) + 1) = ((k + 1 : Nat) : Int) := wrap64 (by omega) (by omega)
      have e1 : ((l.map encE).drop k).take ((l.map encE).length - k) = (l.drop k).map encE := drop_enc l k
      have e1' : ((l.map encE).drop (k + 1)).take ((l.map encE).length - (k + 1)) = (l.drop (k + 1)).map encE := drop_enc l (k + 1)
      have e2 := drop_enc2 l k 1
      have p1 : PureEs (((l.map encE).drop k).take ((l.map encE).length - k)) := by rw [e1]; exact pure_E _
      have p2 : PureEs (((((l.map encE).drop k).take ((l.map encE).length - k)).drop 1).take ((((l.map encE).drop k).take ((l.map encE).length - k)).length - 1)) := by rw [e2]; exact pure_E _
      have p1' : PureEs (((l.map encE).drop (k + 1)).take ((l.map encE).length - (k + 1))) := by rw [e1']; exact pure_E _
      have l1 : (((l.map encE).drop k).take ((l.map encE).length - k)).length = l.length - k := by rw [e1]; simp
      have hI0 : (0 : Int) < ((((l.map encE).drop k).take ((l.map encE).length - k)).length : Int) := by rw [l1]; omega
      have g0 : lget (((l.map encE).drop k).take ((l.map encE).length - k)) (0 : Int).toNat = some [i64V e.v, i64V e.o, i64V e.n, i64V e.a, i64V e.b, bagV e.p, bagV e.q] := by
        rw [e1]
        exact getEc (i := 0) (by rw [List.getElem?_drop]; exact hx)
      have c1 : PTriple Tryd.prog gv 53 [.lst 7 (((l.map encE).drop k).take ((l.map encE).length - k))] (chV (l.drop k)) := by rw [e1]; exact copyIn (h.drop k)
      have c2 : PTriple Tryd.prog gv 53 [.lst 7 (((((l.map encE).drop k).take ((l.map encE).length - k)).drop 1).take ((((l.map encE).drop k).take ((l.map encE).length - k)).length - 1))] (chV (l.drop (k + 1))) := by rw [e2]; exact copyIn (h.drop (k + 1))
      by_cases ho : e.o = 3
      · rw [if_pos ho]
        refine PTriple.of_body (C := cx) Tryd.func22 rfl (by kernel_rfl) mixed fun E hE => ?_
        repeat' (conv => whnf); first
         | (refine bcase_of (fun hr => ?_) (fun hr => ?_) <;> (try simp only [decide_eq_true_eq, decide_eq_false_iff_not, beq_iff_eq, beq_eq_false_iff_ne, ne_eq, bne_iff_ne, bne_eq_false_iff_eq, Bool.not_eq_true, ge_iff_le, gt_iff_lt] at hr) <;> try (exfalso; first | omega | exact hr rfl | (simp at hr; done) | (simp at hr; omega)))
         | (apply And.intro; · first | exact Nat.le_of_ble_eq_true rfl | (show indep _ _ = true; kernel_rfl) | decide | exact ⟨by decide, by decide⟩ | exact ⟨Nat.le_of_ble_eq_true rfl, allOne_of rfl⟩ | exact allOne_of rfl | exact ⟨by omega, by omega⟩ | exact ⟨by omega, by rw [lL]; omega⟩ | exact pL | exact pp | exact pq | exact p1 | exact p2 | exact p1' | exact pure_E _ | exact ⟨by decide, hI0⟩)
         | (apply Exists.intro; apply And.intro; · first | exact rfl | exact cG | exact cL | exact c1 | exact c2 | exact gi | exact g0)
         | rw [hw]
         | fail
        all_goals (conv => whnf)
        all_goals (show V.lst 7 _ = V.lst 7 _; exact congrArg _ e1')
      · rw [if_neg ho]
        refine PTriple.of_body (C := cx) Tryd.func22 rfl (by kernel_rfl) mixed fun E hE => ?_
        repeat' (conv => whnf); first
         | (refine bcase_of (fun hr => ?_) (fun hr => ?_) <;> (try simp only [decide_eq_true_eq, decide_eq_false_iff_not, beq_iff_eq, beq_eq_false_iff_ne, ne_eq, bne_iff_ne, bne_eq_false_iff_eq, Bool.not_eq_true, ge_iff_le, gt_iff_lt] at hr) <;> try (exfalso; first | omega | exact hr rfl | (simp at hr; done) | (simp at hr; omega)))
         | (apply And.intro; · first | exact Nat.le_of_ble_eq_true rfl | (show indep _ _ = true; kernel_rfl) | decide | exact ⟨by decide, by decide⟩ | exact ⟨Nat.le_of_ble_eq_true rfl, allOne_of rfl⟩ | exact allOne_of rfl | exact ⟨by omega, by omega⟩ | exact ⟨by omega, by rw [lL]; omega⟩ | exact pL | exact pp | exact pq | exact p1 | exact p2 | exact p1' | exact pure_E _ | exact ⟨by decide, hI0⟩)
         | (apply Exists.intro; apply And.intro; · first | exact rfl | exact cG | exact cL | exact c1 | exact gi | exact g0)
         | rw [hw]
         | fail
        all_goals (conv => whnf)
        all_goals (show V.lst 7 _ = V.lst 7 _; exact congrArg _ e1)
end Go.Proofs.YtbppemcdphgknaaDoor
