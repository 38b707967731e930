/- Chapter 24: what its functions come to (SesO). -/
import Derived.Test.YthgalldffgaddaaSesN
set_option linter.unusedVariables false
set_option linter.unusedSimpArgs false
namespace Go.Proofs.Ythgalldffgaddaa
open Go Go.Vm
set_option maxRecDepth 100000
set_option maxHeartbeats 4000000
set_option linter.unusedSimpArgs false
def b2i (b : Bool) : Int := if b then 1 else 0
def lenTo (a b c d e f : Plc) (i : Int) : Int := (if 1 ≤ i then b2i a.opn else 0) + (if 2 ≤ i then b2i b.opn else 0) + (if 3 ≤ i then b2i c.opn else 0) + (if 4 ≤ i then b2i d.opn else 0) + (if 5 ≤ i then b2i e.opn else 0) + (if 6 ≤ i then b2i f.opn else 0)
theorem b2i_in (b : Bool) : 0 ≤ b2i b ∧ b2i b ≤ 1 := by cases b <;> decide
theorem lenTo_in (a b c d e f : Plc) (i : Int) : 0 ≤ lenTo a b c d e f i ∧ lenTo a b c d e f i ≤ 6 := by
  unfold lenTo
  have h1 := b2i_in a.opn; have h2 := b2i_in b.opn; have h3 := b2i_in c.opn; have h4 := b2i_in d.opn; have h5 := b2i_in e.opn; have h6 := b2i_in f.opn
  (repeat' split) <;> omega
def stL (k l n : Int) (a b c d e f : Plc) (cnt i : Int) : St Empty := mkSt 21 [(3, i64V cnt), (11, .agg [i64V a.turn, .bool a.opn, i64V a.ver, i64V a.till, i64V b.turn, .bool b.opn, i64V b.ver, i64V b.till, i64V c.turn, .bool c.opn, i64V c.ver, i64V c.till, i64V d.turn, .bool d.opn, i64V d.ver, i64V d.till, i64V e.turn, .bool e.opn, i64V e.ver, i64V e.till, i64V f.turn, .bool f.opn, i64V f.ver, i64V f.till]), (12, i64V i)] [] [some (.box (cells k l n a b c d e f))]
theorem lenS_0 (a b c d e f : Plc) : lenTo a b c d e f 1 = lenTo a b c d e f 0 + b2i a.opn := by simp [lenTo]
theorem lenS_1 (a b c d e f : Plc) : lenTo a b c d e f 2 = lenTo a b c d e f 1 + b2i b.opn := by simp [lenTo]
theorem lenS_2 (a b c d e f : Plc) : lenTo a b c d e f 3 = lenTo a b c d e f 2 + b2i c.opn := by simp [lenTo]
theorem lenS_3 (a b c d e f : Plc) : lenTo a b c d e f 4 = lenTo a b c d e f 3 + b2i d.opn := by simp [lenTo]
theorem lenS_4 (a b c d e f : Plc) : lenTo a b c d e f 5 = lenTo a b c d e f 4 + b2i e.opn := by simp [lenTo]
theorem lenS_5 (a b c d e f : Plc) : lenTo a b c d e f 6 = lenTo a b c d e f 5 + b2i f.opn := by simp [lenTo]
theorem len_ok (k l n : Int) (a b c d e f : Plc) : ATriple Try.prog gv noRep 20 [.ref (0, 0) 0] [.box (cells k l n a b c d e f)] (i64V (lenTo a b c d e f 6)) [.box (cells k l n a b c d e f)] none := by
  refine ATriple.of_body (C := cx) Try.func20 rfl (by kernel_rfl) mixed rfl (by simp [okA, okC, okN]) (by simp [okOb, okC, okN, cells, plc]) (by simp [okG, okA, okC, okN]) (by simp [okOb, okC, okN, cells, plc]) (fun o ho => by cases ho) fun E hE => ?_
  repeat' (conv => whnf); first
   | (refine bcase_of (fun hr => ?_) (fun hr => ?_) <;> (try simp only [decide_eq_true_eq, decide_eq_false_iff_not, gt_iff_lt] at hr) <;> try (exfalso; omega))
   | (refine And.intro (by first | exact Nat.le_of_ble_eq_true rfl | decide) ?_)
   | (refine And.intro (by show indep _ _ = true; kernel_rfl) ?_)
   | (refine Exists.intro _ (And.intro (by first | exact rfl) ?_))
   | fail
  all_goals (conv => whnf)
  refine VLoop.norm [3, 11, 12] [] ?_
  conv => whnf
  refine VLoop.inv (fun z : Int × Int => stL k l n a b c d e f z.2 z.1) (fun z => 0 ≤ z.1 ∧ z.1 ≤ 6 ∧ z.2 = lenTo a b c d e f z.1) (fun z => (6 - z.1).toNat) (0, 0) ⟨by decide, by decide, by simp [lenTo]⟩ rfl ?_
  rintro ⟨i, cnt⟩ ⟨q1, q2, q3⟩ ih
  simp only at q1 q2 q3 ih
  have hc := lenTo_in a b c d e f i
  rw [← q3] at hc
  have hw : IntKind.i64.wrap (cnt + 1) = cnt + 1 := wrapI64 (by omega) (by omega)
  have hi : i = 0 ∨ i = 1 ∨ i = 2 ∨ i = 3 ∨ i = 4 ∨ i = 5 ∨ i = 6 := by omega
  rcases hi with rfl | rfl | rfl | rfl | rfl | rfl | rfl
  all_goals (show VLoop cx E _ (stL k l n a b c d e f cnt _) _)
  all_goals refine VLoop.unroll hE mixed ?_
  all_goals
    repeat' (conv => whnf); first
     | (refine bcase_of (fun hr => ?_) (fun hr => ?_) <;> try (exfalso; simp at hr; done))
     | (refine And.intro (by first | exact Nat.le_of_ble_eq_true rfl | decide | decide | exact ⟨(by decide), (by decide)⟩ | exact ⟨(by decide : (0 : Int) ≤ 0), (by decide : (0 : Int) < 6)⟩ | exact ⟨(by decide : (0 : Int) ≤ 1), (by decide : (1 : Int) < 6)⟩ | exact ⟨(by decide : (0 : Int) ≤ 2), (by decide : (2 : Int) < 6)⟩ | exact ⟨(by decide : (0 : Int) ≤ 3), (by decide : (3 : Int) < 6)⟩ | exact ⟨(by decide : (0 : Int) ≤ 4), (by decide : (4 : Int) < 6)⟩ | exact ⟨(by decide : (0 : Int) ≤ 5), (by decide : (5 : Int) < 6)⟩) ?_)
     | (refine And.intro (by show indep _ _ = true; kernel_rfl) ?_)
     | (refine Exists.intro _ (And.intro (by first | exact rfl) ?_))
     | fail
  all_goals (conv => whnf)
  all_goals first
    | exact ⟨by rw [← q3]; rfl, rfl⟩
    | refine VLoop.norm [3, 11, 12] [] ?_
  all_goals (conv => whnf)
  all_goals try (refine ih (IntKind.i64.wrap (0 + 1), IntKind.i64.wrap (cnt + 1)) ⟨by show 0 ≤ IntKind.i64.wrap (0 + 1); decide, by show IntKind.i64.wrap (0 + 1) ≤ 6; decide, ?_⟩ (by show (6 - IntKind.i64.wrap (0 + 1)).toNat < _; decide); show IntKind.i64.wrap (cnt + 1) = lenTo a b c d e f (IntKind.i64.wrap (0 + 1)); rw [hw, show IntKind.i64.wrap (0 + 1) = 1 by decide, lenS_0, ← q3, hr]; rfl)
  all_goals try (refine ih (IntKind.i64.wrap (0 + 1), cnt) ⟨by show 0 ≤ IntKind.i64.wrap (0 + 1); decide, by show IntKind.i64.wrap (0 + 1) ≤ 6; decide, ?_⟩ (by show (6 - IntKind.i64.wrap (0 + 1)).toNat < _; decide); show cnt = lenTo a b c d e f (IntKind.i64.wrap (0 + 1)); rw [show IntKind.i64.wrap (0 + 1) = 1 by decide, lenS_0, ← q3, hr]; exact (Int.add_zero _).symm)
  all_goals try (refine ih (IntKind.i64.wrap (1 + 1), IntKind.i64.wrap (cnt + 1)) ⟨by show 0 ≤ IntKind.i64.wrap (1 + 1); decide, by show IntKind.i64.wrap (1 + 1) ≤ 6; decide, ?_⟩ (by show (6 - IntKind.i64.wrap (1 + 1)).toNat < _; decide); show IntKind.i64.wrap (cnt + 1) = lenTo a b c d e f (IntKind.i64.wrap (1 + 1)); rw [hw, show IntKind.i64.wrap (1 + 1) = 2 by decide, lenS_1, ← q3, hr]; rfl)
  all_goals try (refine ih (IntKind.i64.wrap (1 + 1), cnt) ⟨by show 0 ≤ IntKind.i64.wrap (1 + 1); decide, by show IntKind.i64.wrap (1 + 1) ≤ 6; decide, ?_⟩ (by show (6 - IntKind.i64.wrap (1 + 1)).toNat < _; decide); show cnt = lenTo a b c d e f (IntKind.i64.wrap (1 + 1)); rw [show IntKind.i64.wrap (1 + 1) = 2 by decide, lenS_1, ← q3, hr]; exact (Int.add_zero _).symm)
  all_goals try (refine ih (IntKind.i64.wrap (2 + 1), IntKind.i64.wrap (cnt + 1)) ⟨by show 0 ≤ IntKind.i64.wrap (2 + 1); decide, by show IntKind.i64.wrap (2 + 1) ≤ 6; decide, ?_⟩ (by show (6 - IntKind.i64.wrap (2 + 1)).toNat < _; decide); show IntKind.i64.wrap (cnt + 1) = lenTo a b c d e f (IntKind.i64.wrap (2 + 1)); rw [hw, show IntKind.i64.wrap (2 + 1) = 3 by decide, lenS_2, ← q3, hr]; rfl)
  all_goals try (refine ih (IntKind.i64.wrap (2 + 1), cnt) ⟨by show 0 ≤ IntKind.i64.wrap (2 + 1); decide, by show IntKind.i64.wrap (2 + 1) ≤ 6; decide, ?_⟩ (by show (6 - IntKind.i64.wrap (2 + 1)).toNat < _; decide); show cnt = lenTo a b c d e f (IntKind.i64.wrap (2 + 1)); rw [show IntKind.i64.wrap (2 + 1) = 3 by decide, lenS_2, ← q3, hr]; exact (Int.add_zero _).symm)
  all_goals try (refine ih (IntKind.i64.wrap (3 + 1), IntKind.i64.wrap (cnt + 1)) ⟨by show 0 ≤ IntKind.i64.wrap (3 + 1); decide, by show IntKind.i64.wrap (3 + 1) ≤ 6; decide, ?_⟩ (by show (6 - IntKind.i64.wrap (3 + 1)).toNat < _; decide); show IntKind.i64.wrap (cnt + 1) = lenTo a b c d e f (IntKind.i64.wrap (3 + 1)); rw [hw, show IntKind.i64.wrap (3 + 1) = 4 by decide, lenS_3, ← q3, hr]; rfl)
  all_goals try (refine ih (IntKind.i64.wrap (3 + 1), cnt) ⟨by show 0 ≤ IntKind.i64.wrap (3 + 1); decide, by show IntKind.i64.wrap (3 + 1) ≤ 6; decide, ?_⟩ (by show (6 - IntKind.i64.wrap (3 + 1)).toNat < _; decide); show cnt = lenTo a b c d e f (IntKind.i64.wrap (3 + 1)); rw [show IntKind.i64.wrap (3 + 1) = 4 by decide, lenS_3, ← q3, hr]; exact (Int.add_zero _).symm)
  all_goals try (refine ih (IntKind.i64.wrap (4 + 1), IntKind.i64.wrap (cnt + 1)) ⟨by show 0 ≤ IntKind.i64.wrap (4 + 1); decide, by show IntKind.i64.wrap (4 + 1) ≤ 6; decide, ?_⟩ (by show (6 - IntKind.i64.wrap (4 + 1)).toNat < _; decide); show IntKind.i64.wrap (cnt + 1) = lenTo a b c d e f (IntKind.i64.wrap (4 + 1)); rw [hw, show IntKind.i64.wrap (4 + 1) = 5 by decide, lenS_4, ← q3, hr]; rfl)
  all_goals try (refine ih (IntKind.i64.wrap (4 + 1), cnt) ⟨by show 0 ≤ IntKind.i64.wrap (4 + 1); decide, by show IntKind.i64.wrap (4 + 1) ≤ 6; decide, ?_⟩ (by show (6 - IntKind.i64.wrap (4 + 1)).toNat < _; decide); show cnt = lenTo a b c d e f (IntKind.i64.wrap (4 + 1)); rw [show IntKind.i64.wrap (4 + 1) = 5 by decide, lenS_4, ← q3, hr]; exact (Int.add_zero _).symm)
  all_goals try (refine ih (IntKind.i64.wrap (5 + 1), IntKind.i64.wrap (cnt + 1)) ⟨by show 0 ≤ IntKind.i64.wrap (5 + 1); decide, by show IntKind.i64.wrap (5 + 1) ≤ 6; decide, ?_⟩ (by show (6 - IntKind.i64.wrap (5 + 1)).toNat < _; decide); show IntKind.i64.wrap (cnt + 1) = lenTo a b c d e f (IntKind.i64.wrap (5 + 1)); rw [hw, show IntKind.i64.wrap (5 + 1) = 6 by decide, lenS_5, ← q3, hr]; rfl)
  all_goals try (refine ih (IntKind.i64.wrap (5 + 1), cnt) ⟨by show 0 ≤ IntKind.i64.wrap (5 + 1); decide, by show IntKind.i64.wrap (5 + 1) ≤ 6; decide, ?_⟩ (by show (6 - IntKind.i64.wrap (5 + 1)).toNat < _; decide); show cnt = lenTo a b c d e f (IntKind.i64.wrap (5 + 1)); rw [show IntKind.i64.wrap (5 + 1) = 6 by decide, lenS_5, ← q3, hr]; exact (Int.add_zero _).symm)
def stR (k l n : Int) (a b c d e f : Plc) (cnt i : Int) : St Empty := mkSt 19 [(0, .ref (0, 0) 0), (3, i64V cnt), (4, i64V i)] [] [some (.box (rcells k l n a b c d e f))]
theorem rlen_ok (k l n : Int) (a b c d e f : Plc) : ATriple Try.prog gv noRep 21 [.ref (0, 0) 0] [.box (rcells k l n a b c d e f)] (i64V (lenTo a b c d e f 6)) [.box (rcells k l n a b c d e f)] none := by
  refine ATriple.of_body (C := cx) Try.func21 rfl (by kernel_rfl) mixed rfl (by simp [okA, okC, okN]) (by simp [okOb, okC, okN, rcells]) (by simp [okG, okA, okC, okN]) (by simp [okOb, okC, okN, rcells]) (fun o ho => by cases ho) fun E hE => ?_
  repeat' (conv => whnf); first
   | (refine bcase_of (fun hr => ?_) (fun hr => ?_) <;> (try simp only [decide_eq_true_eq, decide_eq_false_iff_not, gt_iff_lt] at hr) <;> try (exfalso; omega))
   | (refine And.intro (by first | exact Nat.le_of_ble_eq_true rfl | decide) ?_)
   | (refine And.intro (by show indep _ _ = true; kernel_rfl) ?_)
   | (refine Exists.intro _ (And.intro (by first | exact rfl) ?_))
   | fail
  all_goals (conv => whnf)
  refine VLoop.norm [0, 3, 4] [] ?_
  conv => whnf
  refine VLoop.inv (fun z : Int × Int => stR k l n a b c d e f z.2 z.1) (fun z => 0 ≤ z.1 ∧ z.1 ≤ 6 ∧ z.2 = lenTo a b c d e f z.1) (fun z => (6 - z.1).toNat) (0, 0) ⟨by decide, by decide, by simp [lenTo]⟩ rfl ?_
  rintro ⟨i, cnt⟩ ⟨q1, q2, q3⟩ ih
  simp only at q1 q2 q3 ih
  have hc := lenTo_in a b c d e f i
  rw [← q3] at hc
  have hw : IntKind.i64.wrap (cnt + 1) = cnt + 1 := wrapI64 (by omega) (by omega)
  have hi : i = 0 ∨ i = 1 ∨ i = 2 ∨ i = 3 ∨ i = 4 ∨ i = 5 ∨ i = 6 := by omega
  rcases hi with rfl | rfl | rfl | rfl | rfl | rfl | rfl
  all_goals (show VLoop cx E _ (stR k l n a b c d e f cnt _) _)
  all_goals refine VLoop.unroll hE mixed ?_
  all_goals
    repeat' (conv => whnf); first
     | (refine bcase_of (fun hr => ?_) (fun hr => ?_) <;> try (exfalso; simp at hr; done))
     | (refine And.intro (by first | exact Nat.le_of_ble_eq_true rfl | decide | decide | exact ⟨(by decide), (by decide)⟩ | exact ⟨(by decide : (0 : Int) ≤ 0), (by decide : (0 : Int) < 6)⟩ | exact ⟨(by decide : (0 : Int) ≤ 1), (by decide : (1 : Int) < 6)⟩ | exact ⟨(by decide : (0 : Int) ≤ 2), (by decide : (2 : Int) < 6)⟩ | exact ⟨(by decide : (0 : Int) ≤ 3), (by decide : (3 : Int) < 6)⟩ | exact ⟨(by decide : (0 : Int) ≤ 4), (by decide : (4 : Int) < 6)⟩ | exact ⟨(by decide : (0 : Int) ≤ 5), (by decide : (5 : Int) < 6)⟩) ?_)
     | (refine And.intro (by show indep _ _ = true; kernel_rfl) ?_)
     | (refine Exists.intro _ (And.intro (by first | exact rfl) ?_))
     | fail
  all_goals (conv => whnf)
  all_goals first
    | exact ⟨by rw [← q3]; rfl, rfl⟩
    | refine VLoop.norm [0, 3, 4] [] ?_
  all_goals (conv => whnf)
  all_goals try (refine ih (IntKind.i64.wrap (0 + 1), IntKind.i64.wrap (cnt + 1)) ⟨by show 0 ≤ IntKind.i64.wrap (0 + 1); decide, by show IntKind.i64.wrap (0 + 1) ≤ 6; decide, ?_⟩ (by show (6 - IntKind.i64.wrap (0 + 1)).toNat < _; decide); show IntKind.i64.wrap (cnt + 1) = lenTo a b c d e f (IntKind.i64.wrap (0 + 1)); rw [hw, show IntKind.i64.wrap (0 + 1) = 1 by decide, lenS_0, ← q3, hr]; rfl)
  all_goals try (refine ih (IntKind.i64.wrap (0 + 1), cnt) ⟨by show 0 ≤ IntKind.i64.wrap (0 + 1); decide, by show IntKind.i64.wrap (0 + 1) ≤ 6; decide, ?_⟩ (by show (6 - IntKind.i64.wrap (0 + 1)).toNat < _; decide); show cnt = lenTo a b c d e f (IntKind.i64.wrap (0 + 1)); rw [show IntKind.i64.wrap (0 + 1) = 1 by decide, lenS_0, ← q3, hr]; exact (Int.add_zero _).symm)
  all_goals try (refine ih (IntKind.i64.wrap (1 + 1), IntKind.i64.wrap (cnt + 1)) ⟨by show 0 ≤ IntKind.i64.wrap (1 + 1); decide, by show IntKind.i64.wrap (1 + 1) ≤ 6; decide, ?_⟩ (by show (6 - IntKind.i64.wrap (1 + 1)).toNat < _; decide); show IntKind.i64.wrap (cnt + 1) = lenTo a b c d e f (IntKind.i64.wrap (1 + 1)); rw [hw, show IntKind.i64.wrap (1 + 1) = 2 by decide, lenS_1, ← q3, hr]; rfl)
  all_goals try (refine ih (IntKind.i64.wrap (1 + 1), cnt) ⟨by show 0 ≤ IntKind.i64.wrap (1 + 1); decide, by show IntKind.i64.wrap (1 + 1) ≤ 6; decide, ?_⟩ (by show (6 - IntKind.i64.wrap (1 + 1)).toNat < _; decide); show cnt = lenTo a b c d e f (IntKind.i64.wrap (1 + 1)); rw [show IntKind.i64.wrap (1 + 1) = 2 by decide, lenS_1, ← q3, hr]; exact (Int.add_zero _).symm)
  all_goals try (refine ih (IntKind.i64.wrap (2 + 1), IntKind.i64.wrap (cnt + 1)) ⟨by show 0 ≤ IntKind.i64.wrap (2 + 1); decide, by show IntKind.i64.wrap (2 + 1) ≤ 6; decide, ?_⟩ (by show (6 - IntKind.i64.wrap (2 + 1)).toNat < _; decide); show IntKind.i64.wrap (cnt + 1) = lenTo a b c d e f (IntKind.i64.wrap (2 + 1)); rw [hw, show IntKind.i64.wrap (2 + 1) = 3 by decide, lenS_2, ← q3, hr]; rfl)
  all_goals try (refine ih (IntKind.i64.wrap (2 + 1), cnt) ⟨by show 0 ≤ IntKind.i64.wrap (2 + 1); decide, by show IntKind.i64.wrap (2 + 1) ≤ 6; decide, ?_⟩ (by show (6 - IntKind.i64.wrap (2 + 1)).toNat < _; decide); show cnt = lenTo a b c d e f (IntKind.i64.wrap (2 + 1)); rw [show IntKind.i64.wrap (2 + 1) = 3 by decide, lenS_2, ← q3, hr]; exact (Int.add_zero _).symm)
  all_goals try (refine ih (IntKind.i64.wrap (3 + 1), IntKind.i64.wrap (cnt + 1)) ⟨by show 0 ≤ IntKind.i64.wrap (3 + 1); decide, by show IntKind.i64.wrap (3 + 1) ≤ 6; decide, ?_⟩ (by show (6 - IntKind.i64.wrap (3 + 1)).toNat < _; decide); show IntKind.i64.wrap (cnt + 1) = lenTo a b c d e f (IntKind.i64.wrap (3 + 1)); rw [hw, show IntKind.i64.wrap (3 + 1) = 4 by decide, lenS_3, ← q3, hr]; rfl)
  all_goals try (refine ih (IntKind.i64.wrap (3 + 1), cnt) ⟨by show 0 ≤ IntKind.i64.wrap (3 + 1); decide, by show IntKind.i64.wrap (3 + 1) ≤ 6; decide, ?_⟩ (by show (6 - IntKind.i64.wrap (3 + 1)).toNat < _; decide); show cnt = lenTo a b c d e f (IntKind.i64.wrap (3 + 1)); rw [show IntKind.i64.wrap (3 + 1) = 4 by decide, lenS_3, ← q3, hr]; exact (Int.add_zero _).symm)
  all_goals try (refine ih (IntKind.i64.wrap (4 + 1), IntKind.i64.wrap (cnt + 1)) ⟨by show 0 ≤ IntKind.i64.wrap (4 + 1); decide, by show IntKind.i64.wrap (4 + 1) ≤ 6; decide, ?_⟩ (by show (6 - IntKind.i64.wrap (4 + 1)).toNat < _; decide); show IntKind.i64.wrap (cnt + 1) = lenTo a b c d e f (IntKind.i64.wrap (4 + 1)); rw [hw, show IntKind.i64.wrap (4 + 1) = 5 by decide, lenS_4, ← q3, hr]; rfl)
  all_goals try (refine ih (IntKind.i64.wrap (4 + 1), cnt) ⟨by show 0 ≤ IntKind.i64.wrap (4 + 1); decide, by show IntKind.i64.wrap (4 + 1) ≤ 6; decide, ?_⟩ (by show (6 - IntKind.i64.wrap (4 + 1)).toNat < _; decide); show cnt = lenTo a b c d e f (IntKind.i64.wrap (4 + 1)); rw [show IntKind.i64.wrap (4 + 1) = 5 by decide, lenS_4, ← q3, hr]; exact (Int.add_zero _).symm)
  all_goals try (refine ih (IntKind.i64.wrap (5 + 1), IntKind.i64.wrap (cnt + 1)) ⟨by show 0 ≤ IntKind.i64.wrap (5 + 1); decide, by show IntKind.i64.wrap (5 + 1) ≤ 6; decide, ?_⟩ (by show (6 - IntKind.i64.wrap (5 + 1)).toNat < _; decide); show IntKind.i64.wrap (cnt + 1) = lenTo a b c d e f (IntKind.i64.wrap (5 + 1)); rw [hw, show IntKind.i64.wrap (5 + 1) = 6 by decide, lenS_5, ← q3, hr]; rfl)
  all_goals try (refine ih (IntKind.i64.wrap (5 + 1), cnt) ⟨by show 0 ≤ IntKind.i64.wrap (5 + 1); decide, by show IntKind.i64.wrap (5 + 1) ≤ 6; decide, ?_⟩ (by show (6 - IntKind.i64.wrap (5 + 1)).toNat < _; decide); show cnt = lenTo a b c d e f (IntKind.i64.wrap (5 + 1)); rw [show IntKind.i64.wrap (5 + 1) = 6 by decide, lenS_5, ← q3, hr]; exact (Int.add_zero _).symm)
theorem rtick_ok (k l n : Int) (a b c d e f : Plc) (m : Int) (hn : 0 ≤ n ∧ n ≤ 1099511627776) : ATriple Try.prog gv noRep 17 [.ref (0, 0) 0, i64V m] [.box (rcells k l n a b c d e f)] (.tup []) [.box (rcells k l (tickT n m) a b c d e f)] (none) := by
  refine ATriple.of_body (C := cx) Try.func17 rfl (by kernel_rfl) mixed rfl (by simp [okA, okC, okN]) (by simp [okOb, okC, okN, rcells]) (by simp [okG, okA, okC, okN]) (by simp [okOb, okC, okN, rcells]) (fun o ho => by cases ho) fun E hE => ?_
  repeat' (conv => whnf); first
   | (refine bcase_of (fun hr => ?_) (fun hr => ?_) <;> (try simp only [decide_eq_true_eq, decide_eq_false_iff_not, gt_iff_lt] at hr) <;> try (exfalso; omega))
   | (refine And.intro (by first | exact Nat.le_of_ble_eq_true rfl | decide) ?_)
   | (refine And.intro (by show indep _ _ = true; kernel_rfl) ?_)
   | (refine Exists.intro _ (And.intro (by first | exact rfl) ?_))
   | fail
  all_goals (conv => whnf)
  all_goals refine ⟨rfl, ?_⟩
  all_goals refine congrArg (fun x => [some (Ob.box (rcells k l x a b c d e f))]) ?_
  all_goals dsimp only
  all_goals have e1 : (if 0 > m then 0 else m) = max m 0 := by simp only [Int.max_def]; (repeat' split) <;> omega
  all_goals simp only [e1]
  all_goals have e2 : (if (1099511627776 : Int) < max m 0 then 1099511627776 else max m 0) = max 0 (min m 1099511627776) := by (repeat' split) <;> omega
  all_goals simp only [e2]
  all_goals have hw : IntKind.i64.wrap (n + max 0 (min m 1099511627776)) = n + max 0 (min m 1099511627776) := wrapI64 (by omega) (by omega)
  all_goals simp only [hw, tickT, Int.min_def (n + max 0 (min m 1099511627776))]
  all_goals (repeat' split) <;> omega
end Go.Proofs.Ythgalldffgaddaa
