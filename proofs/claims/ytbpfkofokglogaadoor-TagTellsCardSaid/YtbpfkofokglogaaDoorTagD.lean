/- What functions of chapter 12 come to (TagD). -/
import Derived.Test.YtbpfkofokglogaaDoorTagC
set_option linter.unusedVariables false
set_option linter.unusedSimpArgs false
namespace Go.Proofs.YtbpfkofokglogaaDoor
open Go Go.Vm
set_option maxRecDepth 100000
set_option linter.unusedSimpArgs false
def all8 (a b : Int) : List Int := [a, b, 0, 1, 2, 3, 4, -1]
def st3 (a b : Int) (w i : Bool) (n : Int) : St Empty := mkSt 91 [(5, .ref (6, 1) 0), (7, .rsl (17, 1) 1 0 8), (8, int1 n)] [(5, .box [.bool w, .bool i]), (16, .row 1 ((all8 a b).map fun x => [int1 x]) false)] []
def st3i (a b : Int) (w i : Bool) (n x k : Int) : St Empty := mkSt 91 [(5, .ref (6, 1) 0), (7, .rsl (17, 1) 1 0 8), (8, int1 n), (9, int1 x), (10, int1 k)] [(5, .box [.bool w, .bool i]), (16, .row 1 ((all8 a b).map fun x => [int1 x]) false)] []
theorem at8 (a b n : Int) (h1 : 0 ≤ n) (h2 : n < 8) : ∃ x, (all8 a b)[n.toNat]? = some x := ⟨_, List.getElem?_eq_getElem (by simp [all8]; omega)⟩
theorem ok3ff (a b : Int) : PTriple Tryd.prog gv 3 [int1 a, int1 b, .agg [.bool false, .bool false]] (.bool true) := by
  refine PTriple.of_body (C := cx) Tryd.func3 rfl (by kernel_rfl) mixed fun E hE => ?_
  repeat' (conv => whnf); first
   | refine ⟨_, rfl, ?_⟩
   | refine ⟨by first | decide | exact Nat.le_of_ble_eq_true rfl | omega, ?_⟩
   | refine ⟨rfl, ?_⟩
   | fail
  conv => whnf
  refine VLoop.norm [5, 7, 8] [5, 16] ?_
  conv => whnf
  refine ⟨pure_ints (all8 a b), ?_⟩
  conv => whnf
  refine VLoop.inv (fun n : Int => st3 a b false false n) (fun n => 0 ≤ n ∧ n ≤ 8) (fun n => 8 - n.toNat) 0 (by decide) rfl ?_
  intro n ⟨h1, h2⟩ ih
  show VLoop cx E _ (st3 a b false false n) _
  refine VLoop.unroll hE mixed ?_
  conv => whnf
  refine bcase_of (fun h => ?_) (fun h => ?_)
  · have h3 : n < 8 := by simpa using h
    obtain ⟨x, hx⟩ := at8 a b n h1 h3
    have hw : IntKind.i64.wrap (n + 1) = n + 1 := wrap64 (by omega) (by omega)
    refine cutLoop (C := cx) (E := E) (b := ?b) (K := ?K) (st := st3i a b false false n x 0) (fun key => ?m) ?l
    case m =>
      repeat' (conv => whnf); first
       | refine ⟨_, rfl, ?_⟩
       | refine ⟨by first | decide | exact Nat.le_of_ble_eq_true rfl | omega, ?_⟩
       | refine ⟨rfl, ?_⟩
       | refine ⟨⟨h1, h3⟩, ?_⟩
       | refine ⟨[int1 x], by rw [lget_eq, List.getElem?_map, Nat.zero_add, hx]; rfl, ?_⟩
       | (refine bcase_of (fun hr => ?_) (fun hr => ?_) <;> (try simp only [known, was, is, decide_eq_true_eq, decide_eq_false_iff_not] at hr) <;> try (exfalso; first | omega | (simp at hr; done) | (clear ih key; simp_all; done)))
       | refine ⟨_, ok7 _, ?_⟩
       | refine ⟨_, ok8 _, ?_⟩
       | refine ⟨_, ok9 _, ?_⟩
       | refine ⟨_, ok10 _, ?_⟩
       | refine ⟨_, ok11 _, ?_⟩
       | refine ⟨_, ok12 _, ?_⟩
       | refine ⟨_, ok13 _ _, ?_⟩
       | refine ⟨_, ok14 _ _, ?_⟩
       | refine ⟨_, ok15 _ _, ?_⟩
       | refine ⟨_, ok16 _ _, ?_⟩
       | refine ⟨_, ok17, ?_⟩
       | fail
      all_goals (conv => whnf)
      all_goals refine VLoop.norm [5, 7, 8, 9, 10] [5, 16] ?_
      all_goals (conv => whnf)
      all_goals refine ⟨pure_ints (all8 a b), ?_⟩
      all_goals (conv => whnf)
      all_goals exact key
    case l =>
      refine VLoop.inv (fun k : Int => st3i a b false false n x k) (fun k => 0 ≤ k ∧ k ≤ 8) (fun k => 8 - k.toNat) 0 (by decide) rfl ?_
      intro k ⟨k1, k2⟩ ihk
      show VLoop cx E _ (st3i a b false false n x k) _
      refine VLoop.unroll hE mixed ?_
      conv => whnf
      refine bcase_of (fun hk => ?_) (fun hk => ?_)
      · have k3 : k < 8 := by simpa using hk
        obtain ⟨y, hy⟩ := at8 a b k k1 k3
        have kw : IntKind.i64.wrap (k + 1) = k + 1 := wrap64 (by omega) (by omega)
        repeat' (conv => whnf); first
         | refine ⟨_, rfl, ?_⟩
         | refine ⟨by first | decide | exact Nat.le_of_ble_eq_true rfl | omega, ?_⟩
         | refine ⟨rfl, ?_⟩
         | refine ⟨⟨k1, k3⟩, ?_⟩
         | refine ⟨[int1 y], by rw [lget_eq, List.getElem?_map, Nat.zero_add, hy]; rfl, ?_⟩
         | (refine bcase_of (fun hr => ?_) (fun hr => ?_) <;> (try simp only [known, was, is, decide_eq_true_eq, decide_eq_false_iff_not] at hr) <;> try (exfalso; first | omega | (simp at hr; done) | (clear ih ihk; simp_all; done)))
         | refine ⟨_, ok7 _, ?_⟩
         | refine ⟨_, ok8 _, ?_⟩
         | refine ⟨_, ok9 _, ?_⟩
         | refine ⟨_, ok10 _, ?_⟩
         | refine ⟨_, ok11 _, ?_⟩
         | refine ⟨_, ok12 _, ?_⟩
         | refine ⟨_, ok13 _ _, ?_⟩
         | refine ⟨_, ok14 _ _, ?_⟩
         | refine ⟨_, ok15 _ _, ?_⟩
         | refine ⟨_, ok16 _ _, ?_⟩
         | refine ⟨_, ok17, ?_⟩
         | fail
        all_goals (conv => whnf)
        all_goals refine VLoop.norm [5, 7, 8, 9, 10] [5, 16] ?_
        all_goals (conv => whnf)
        all_goals refine ⟨pure_ints (all8 a b), ?_⟩
        all_goals (conv => whnf)
        all_goals exact ihk (IntKind.i64.wrap (k + 1)) (by rw [kw]; omega) (by rw [kw]; omega)
      · skip
        repeat' (conv => whnf); first
         | refine ⟨_, rfl, ?_⟩
         | refine ⟨by first | decide | exact Nat.le_of_ble_eq_true rfl | omega, ?_⟩
         | refine ⟨rfl, ?_⟩
         | fail
        conv => whnf
        refine VLoop.norm [5, 7, 8] [5, 16] ?_
        conv => whnf
        refine ⟨pure_ints (all8 a b), ?_⟩
        conv => whnf
        exact ih (IntKind.i64.wrap (n + 1)) (by rw [hw]; omega) (by rw [hw]; omega)
  · skip
    repeat' (conv => whnf); first
     | refine ⟨_, rfl, ?_⟩
     | refine ⟨by first | decide | exact Nat.le_of_ble_eq_true rfl | omega, ?_⟩
     | refine ⟨rfl, ?_⟩
     | (refine bcase_of (fun hr => ?_) (fun hr => ?_) <;> (try simp only [known, was, is, decide_eq_true_eq, decide_eq_false_iff_not] at hr) <;> try (exfalso; first | omega | (simp at hr; done) | (clear ih; simp_all; done)))
     | refine ⟨_, ok7 _, ?_⟩
     | refine ⟨_, ok8 _, ?_⟩
     | refine ⟨_, ok9 _, ?_⟩
     | refine ⟨_, ok10 _, ?_⟩
     | refine ⟨_, ok11 _, ?_⟩
     | refine ⟨_, ok12 _, ?_⟩
     | refine ⟨_, ok13 _ _, ?_⟩
     | refine ⟨_, ok14 _ _, ?_⟩
     | refine ⟨_, ok15 _ _, ?_⟩
     | refine ⟨_, ok16 _ _, ?_⟩
     | refine ⟨_, ok17, ?_⟩
     | fail
    all_goals (conv => whnf)
    all_goals rfl
theorem ok3ft (a b : Int) : PTriple Tryd.prog gv 3 [int1 a, int1 b, .agg [.bool false, .bool true]] (.bool true) := by
  refine PTriple.of_body (C := cx) Tryd.func3 rfl (by kernel_rfl) mixed fun E hE => ?_
  repeat' (conv => whnf); first
   | refine ⟨_, rfl, ?_⟩
   | refine ⟨by first | decide | exact Nat.le_of_ble_eq_true rfl | omega, ?_⟩
   | refine ⟨rfl, ?_⟩
   | fail
  conv => whnf
  refine VLoop.norm [5, 7, 8] [5, 16] ?_
  conv => whnf
  refine ⟨pure_ints (all8 a b), ?_⟩
  conv => whnf
  refine VLoop.inv (fun n : Int => st3 a b false true n) (fun n => 0 ≤ n ∧ n ≤ 8) (fun n => 8 - n.toNat) 0 (by decide) rfl ?_
  intro n ⟨h1, h2⟩ ih
  show VLoop cx E _ (st3 a b false true n) _
  refine VLoop.unroll hE mixed ?_
  conv => whnf
  refine bcase_of (fun h => ?_) (fun h => ?_)
  · have h3 : n < 8 := by simpa using h
    obtain ⟨x, hx⟩ := at8 a b n h1 h3
    have hw : IntKind.i64.wrap (n + 1) = n + 1 := wrap64 (by omega) (by omega)
    refine cutLoop (C := cx) (E := E) (b := ?b) (K := ?K) (st := st3i a b false true n x 0) (fun key => ?m) ?l
    case m =>
      repeat' (conv => whnf); first
       | refine ⟨_, rfl, ?_⟩
       | refine ⟨by first | decide | exact Nat.le_of_ble_eq_true rfl | omega, ?_⟩
       | refine ⟨rfl, ?_⟩
       | refine ⟨⟨h1, h3⟩, ?_⟩
       | refine ⟨[int1 x], by rw [lget_eq, List.getElem?_map, Nat.zero_add, hx]; rfl, ?_⟩
       | (refine bcase_of (fun hr => ?_) (fun hr => ?_) <;> (try simp only [known, was, is, decide_eq_true_eq, decide_eq_false_iff_not] at hr) <;> try (exfalso; first | omega | (simp at hr; done) | (clear ih key; simp_all; done)))
       | refine ⟨_, ok7 _, ?_⟩
       | refine ⟨_, ok8 _, ?_⟩
       | refine ⟨_, ok9 _, ?_⟩
       | refine ⟨_, ok10 _, ?_⟩
       | refine ⟨_, ok11 _, ?_⟩
       | refine ⟨_, ok12 _, ?_⟩
       | refine ⟨_, ok13 _ _, ?_⟩
       | refine ⟨_, ok14 _ _, ?_⟩
       | refine ⟨_, ok15 _ _, ?_⟩
       | refine ⟨_, ok16 _ _, ?_⟩
       | refine ⟨_, ok17, ?_⟩
       | fail
      all_goals (conv => whnf)
      all_goals refine VLoop.norm [5, 7, 8, 9, 10] [5, 16] ?_
      all_goals (conv => whnf)
      all_goals refine ⟨pure_ints (all8 a b), ?_⟩
      all_goals (conv => whnf)
      all_goals exact key
    case l =>
      refine VLoop.inv (fun k : Int => st3i a b false true n x k) (fun k => 0 ≤ k ∧ k ≤ 8) (fun k => 8 - k.toNat) 0 (by decide) rfl ?_
      intro k ⟨k1, k2⟩ ihk
      show VLoop cx E _ (st3i a b false true n x k) _
      refine VLoop.unroll hE mixed ?_
      conv => whnf
      refine bcase_of (fun hk => ?_) (fun hk => ?_)
      · have k3 : k < 8 := by simpa using hk
        obtain ⟨y, hy⟩ := at8 a b k k1 k3
        have kw : IntKind.i64.wrap (k + 1) = k + 1 := wrap64 (by omega) (by omega)
        repeat' (conv => whnf); first
         | refine ⟨_, rfl, ?_⟩
         | refine ⟨by first | decide | exact Nat.le_of_ble_eq_true rfl | omega, ?_⟩
         | refine ⟨rfl, ?_⟩
         | refine ⟨⟨k1, k3⟩, ?_⟩
         | refine ⟨[int1 y], by rw [lget_eq, List.getElem?_map, Nat.zero_add, hy]; rfl, ?_⟩
         | (refine bcase_of (fun hr => ?_) (fun hr => ?_) <;> (try simp only [known, was, is, decide_eq_true_eq, decide_eq_false_iff_not] at hr) <;> try (exfalso; first | omega | (simp at hr; done) | (clear ih ihk; simp_all; done)))
         | refine ⟨_, ok7 _, ?_⟩
         | refine ⟨_, ok8 _, ?_⟩
         | refine ⟨_, ok9 _, ?_⟩
         | refine ⟨_, ok10 _, ?_⟩
         | refine ⟨_, ok11 _, ?_⟩
         | refine ⟨_, ok12 _, ?_⟩
         | refine ⟨_, ok13 _ _, ?_⟩
         | refine ⟨_, ok14 _ _, ?_⟩
         | refine ⟨_, ok15 _ _, ?_⟩
         | refine ⟨_, ok16 _ _, ?_⟩
         | refine ⟨_, ok17, ?_⟩
         | fail
        all_goals (conv => whnf)
        all_goals refine VLoop.norm [5, 7, 8, 9, 10] [5, 16] ?_
        all_goals (conv => whnf)
        all_goals refine ⟨pure_ints (all8 a b), ?_⟩
        all_goals (conv => whnf)
        all_goals exact ihk (IntKind.i64.wrap (k + 1)) (by rw [kw]; omega) (by rw [kw]; omega)
      · skip
        repeat' (conv => whnf); first
         | refine ⟨_, rfl, ?_⟩
         | refine ⟨by first | decide | exact Nat.le_of_ble_eq_true rfl | omega, ?_⟩
         | refine ⟨rfl, ?_⟩
         | fail
        conv => whnf
        refine VLoop.norm [5, 7, 8] [5, 16] ?_
        conv => whnf
        refine ⟨pure_ints (all8 a b), ?_⟩
        conv => whnf
        exact ih (IntKind.i64.wrap (n + 1)) (by rw [hw]; omega) (by rw [hw]; omega)
  · skip
    repeat' (conv => whnf); first
     | refine ⟨_, rfl, ?_⟩
     | refine ⟨by first | decide | exact Nat.le_of_ble_eq_true rfl | omega, ?_⟩
     | refine ⟨rfl, ?_⟩
     | (refine bcase_of (fun hr => ?_) (fun hr => ?_) <;> (try simp only [known, was, is, decide_eq_true_eq, decide_eq_false_iff_not] at hr) <;> try (exfalso; first | omega | (simp at hr; done) | (clear ih; simp_all; done)))
     | refine ⟨_, ok7 _, ?_⟩
     | refine ⟨_, ok8 _, ?_⟩
     | refine ⟨_, ok9 _, ?_⟩
     | refine ⟨_, ok10 _, ?_⟩
     | refine ⟨_, ok11 _, ?_⟩
     | refine ⟨_, ok12 _, ?_⟩
     | refine ⟨_, ok13 _ _, ?_⟩
     | refine ⟨_, ok14 _ _, ?_⟩
     | refine ⟨_, ok15 _ _, ?_⟩
     | refine ⟨_, ok16 _ _, ?_⟩
     | refine ⟨_, ok17, ?_⟩
     | fail
    all_goals (conv => whnf)
    all_goals rfl
theorem ok3tf (a b : Int) : PTriple Tryd.prog gv 3 [int1 a, int1 b, .agg [.bool true, .bool false]] (.bool true) := by
  refine PTriple.of_body (C := cx) Tryd.func3 rfl (by kernel_rfl) mixed fun E hE => ?_
  repeat' (conv => whnf); first
   | refine ⟨_, rfl, ?_⟩
   | refine ⟨by first | decide | exact Nat.le_of_ble_eq_true rfl | omega, ?_⟩
   | refine ⟨rfl, ?_⟩
   | fail
  conv => whnf
  refine VLoop.norm [5, 7, 8] [5, 16] ?_
  conv => whnf
  refine ⟨pure_ints (all8 a b), ?_⟩
  conv => whnf
  refine VLoop.inv (fun n : Int => st3 a b true false n) (fun n => 0 ≤ n ∧ n ≤ 8) (fun n => 8 - n.toNat) 0 (by decide) rfl ?_
  intro n ⟨h1, h2⟩ ih
  show VLoop cx E _ (st3 a b true false n) _
  refine VLoop.unroll hE mixed ?_
  conv => whnf
  refine bcase_of (fun h => ?_) (fun h => ?_)
  · have h3 : n < 8 := by simpa using h
    obtain ⟨x, hx⟩ := at8 a b n h1 h3
    have hw : IntKind.i64.wrap (n + 1) = n + 1 := wrap64 (by omega) (by omega)
    refine cutLoop (C := cx) (E := E) (b := ?b) (K := ?K) (st := st3i a b true false n x 0) (fun key => ?m) ?l
    case m =>
      repeat' (conv => whnf); first
       | refine ⟨_, rfl, ?_⟩
       | refine ⟨by first | decide | exact Nat.le_of_ble_eq_true rfl | omega, ?_⟩
       | refine ⟨rfl, ?_⟩
       | refine ⟨⟨h1, h3⟩, ?_⟩
       | refine ⟨[int1 x], by rw [lget_eq, List.getElem?_map, Nat.zero_add, hx]; rfl, ?_⟩
       | (refine bcase_of (fun hr => ?_) (fun hr => ?_) <;> (try simp only [known, was, is, decide_eq_true_eq, decide_eq_false_iff_not] at hr) <;> try (exfalso; first | omega | (simp at hr; done) | (clear ih key; simp_all; done)))
       | refine ⟨_, ok7 _, ?_⟩
       | refine ⟨_, ok8 _, ?_⟩
       | refine ⟨_, ok9 _, ?_⟩
       | refine ⟨_, ok10 _, ?_⟩
       | refine ⟨_, ok11 _, ?_⟩
       | refine ⟨_, ok12 _, ?_⟩
       | refine ⟨_, ok13 _ _, ?_⟩
       | refine ⟨_, ok14 _ _, ?_⟩
       | refine ⟨_, ok15 _ _, ?_⟩
       | refine ⟨_, ok16 _ _, ?_⟩
       | refine ⟨_, ok17, ?_⟩
       | fail
      all_goals (conv => whnf)
      all_goals refine VLoop.norm [5, 7, 8, 9, 10] [5, 16] ?_
      all_goals (conv => whnf)
      all_goals refine ⟨pure_ints (all8 a b), ?_⟩
      all_goals (conv => whnf)
      all_goals exact key
    case l =>
      refine VLoop.inv (fun k : Int => st3i a b true false n x k) (fun k => 0 ≤ k ∧ k ≤ 8) (fun k => 8 - k.toNat) 0 (by decide) rfl ?_
      intro k ⟨k1, k2⟩ ihk
      show VLoop cx E _ (st3i a b true false n x k) _
      refine VLoop.unroll hE mixed ?_
      conv => whnf
      refine bcase_of (fun hk => ?_) (fun hk => ?_)
      · have k3 : k < 8 := by simpa using hk
        obtain ⟨y, hy⟩ := at8 a b k k1 k3
        have kw : IntKind.i64.wrap (k + 1) = k + 1 := wrap64 (by omega) (by omega)
        repeat' (conv => whnf); first
         | refine ⟨_, rfl, ?_⟩
         | refine ⟨by first | decide | exact Nat.le_of_ble_eq_true rfl | omega, ?_⟩
         | refine ⟨rfl, ?_⟩
         | refine ⟨⟨k1, k3⟩, ?_⟩
         | refine ⟨[int1 y], by rw [lget_eq, List.getElem?_map, Nat.zero_add, hy]; rfl, ?_⟩
         | (refine bcase_of (fun hr => ?_) (fun hr => ?_) <;> (try simp only [known, was, is, decide_eq_true_eq, decide_eq_false_iff_not] at hr) <;> try (exfalso; first | omega | (simp at hr; done) | (clear ih ihk; simp_all; done)))
         | refine ⟨_, ok7 _, ?_⟩
         | refine ⟨_, ok8 _, ?_⟩
         | refine ⟨_, ok9 _, ?_⟩
         | refine ⟨_, ok10 _, ?_⟩
         | refine ⟨_, ok11 _, ?_⟩
         | refine ⟨_, ok12 _, ?_⟩
         | refine ⟨_, ok13 _ _, ?_⟩
         | refine ⟨_, ok14 _ _, ?_⟩
         | refine ⟨_, ok15 _ _, ?_⟩
         | refine ⟨_, ok16 _ _, ?_⟩
         | refine ⟨_, ok17, ?_⟩
         | fail
        all_goals (conv => whnf)
        all_goals refine VLoop.norm [5, 7, 8, 9, 10] [5, 16] ?_
        all_goals (conv => whnf)
        all_goals refine ⟨pure_ints (all8 a b), ?_⟩
        all_goals (conv => whnf)
        all_goals exact ihk (IntKind.i64.wrap (k + 1)) (by rw [kw]; omega) (by rw [kw]; omega)
      · skip
        repeat' (conv => whnf); first
         | refine ⟨_, rfl, ?_⟩
         | refine ⟨by first | decide | exact Nat.le_of_ble_eq_true rfl | omega, ?_⟩
         | refine ⟨rfl, ?_⟩
         | fail
        conv => whnf
        refine VLoop.norm [5, 7, 8] [5, 16] ?_
        conv => whnf
        refine ⟨pure_ints (all8 a b), ?_⟩
        conv => whnf
        exact ih (IntKind.i64.wrap (n + 1)) (by rw [hw]; omega) (by rw [hw]; omega)
  · skip
    repeat' (conv => whnf); first
     | refine ⟨_, rfl, ?_⟩
     | refine ⟨by first | decide | exact Nat.le_of_ble_eq_true rfl | omega, ?_⟩
     | refine ⟨rfl, ?_⟩
     | (refine bcase_of (fun hr => ?_) (fun hr => ?_) <;> (try simp only [known, was, is, decide_eq_true_eq, decide_eq_false_iff_not] at hr) <;> try (exfalso; first | omega | (simp at hr; done) | (clear ih; simp_all; done)))
     | refine ⟨_, ok7 _, ?_⟩
     | refine ⟨_, ok8 _, ?_⟩
     | refine ⟨_, ok9 _, ?_⟩
     | refine ⟨_, ok10 _, ?_⟩
     | refine ⟨_, ok11 _, ?_⟩
     | refine ⟨_, ok12 _, ?_⟩
     | refine ⟨_, ok13 _ _, ?_⟩
     | refine ⟨_, ok14 _ _, ?_⟩
     | refine ⟨_, ok15 _ _, ?_⟩
     | refine ⟨_, ok16 _ _, ?_⟩
     | refine ⟨_, ok17, ?_⟩
     | fail
    all_goals (conv => whnf)
    all_goals rfl
theorem ok3tt (a b : Int) : PTriple Tryd.prog gv 3 [int1 a, int1 b, .agg [.bool true, .bool true]] (.bool true) := by
  refine PTriple.of_body (C := cx) Tryd.func3 rfl (by kernel_rfl) mixed fun E hE => ?_
  repeat' (conv => whnf); first
   | refine ⟨_, rfl, ?_⟩
   | refine ⟨by first | decide | exact Nat.le_of_ble_eq_true rfl | omega, ?_⟩
   | refine ⟨rfl, ?_⟩
   | fail
  conv => whnf
  refine VLoop.norm [5, 7, 8] [5, 16] ?_
  conv => whnf
  refine ⟨pure_ints (all8 a b), ?_⟩
  conv => whnf
  refine VLoop.inv (fun n : Int => st3 a b true true n) (fun n => 0 ≤ n ∧ n ≤ 8) (fun n => 8 - n.toNat) 0 (by decide) rfl ?_
  intro n ⟨h1, h2⟩ ih
  show VLoop cx E _ (st3 a b true true n) _
  refine VLoop.unroll hE mixed ?_
  conv => whnf
  refine bcase_of (fun h => ?_) (fun h => ?_)
  · have h3 : n < 8 := by simpa using h
    obtain ⟨x, hx⟩ := at8 a b n h1 h3
    have hw : IntKind.i64.wrap (n + 1) = n + 1 := wrap64 (by omega) (by omega)
    refine cutLoop (C := cx) (E := E) (b := ?b) (K := ?K) (st := st3i a b true true n x 0) (fun key => ?m) ?l
    case m =>
      repeat' (conv => whnf); first
       | refine ⟨_, rfl, ?_⟩
       | refine ⟨by first | decide | exact Nat.le_of_ble_eq_true rfl | omega, ?_⟩
       | refine ⟨rfl, ?_⟩
       | refine ⟨⟨h1, h3⟩, ?_⟩
       | refine ⟨[int1 x], by rw [lget_eq, List.getElem?_map, Nat.zero_add, hx]; rfl, ?_⟩
       | (refine bcase_of (fun hr => ?_) (fun hr => ?_) <;> (try simp only [known, was, is, decide_eq_true_eq, decide_eq_false_iff_not] at hr) <;> try (exfalso; first | omega | (simp at hr; done) | (clear ih key; simp_all; done)))
       | refine ⟨_, ok7 _, ?_⟩
       | refine ⟨_, ok8 _, ?_⟩
       | refine ⟨_, ok9 _, ?_⟩
       | refine ⟨_, ok10 _, ?_⟩
       | refine ⟨_, ok11 _, ?_⟩
       | refine ⟨_, ok12 _, ?_⟩
       | refine ⟨_, ok13 _ _, ?_⟩
       | refine ⟨_, ok14 _ _, ?_⟩
       | refine ⟨_, ok15 _ _, ?_⟩
       | refine ⟨_, ok16 _ _, ?_⟩
       | refine ⟨_, ok17, ?_⟩
       | fail
      all_goals (conv => whnf)
      all_goals refine VLoop.norm [5, 7, 8, 9, 10] [5, 16] ?_
      all_goals (conv => whnf)
      all_goals refine ⟨pure_ints (all8 a b), ?_⟩
      all_goals (conv => whnf)
      all_goals exact key
    case l =>
      refine VLoop.inv (fun k : Int => st3i a b true true n x k) (fun k => 0 ≤ k ∧ k ≤ 8) (fun k => 8 - k.toNat) 0 (by decide) rfl ?_
      intro k ⟨k1, k2⟩ ihk
      show VLoop cx E _ (st3i a b true true n x k) _
      refine VLoop.unroll hE mixed ?_
      conv => whnf
      refine bcase_of (fun hk => ?_) (fun hk => ?_)
      · have k3 : k < 8 := by simpa using hk
        obtain ⟨y, hy⟩ := at8 a b k k1 k3
        have kw : IntKind.i64.wrap (k + 1) = k + 1 := wrap64 (by omega) (by omega)
        repeat' (conv => whnf); first
         | refine ⟨_, rfl, ?_⟩
         | refine ⟨by first | decide | exact Nat.le_of_ble_eq_true rfl | omega, ?_⟩
         | refine ⟨rfl, ?_⟩
         | refine ⟨⟨k1, k3⟩, ?_⟩
         | refine ⟨[int1 y], by rw [lget_eq, List.getElem?_map, Nat.zero_add, hy]; rfl, ?_⟩
         | (refine bcase_of (fun hr => ?_) (fun hr => ?_) <;> (try simp only [known, was, is, decide_eq_true_eq, decide_eq_false_iff_not] at hr) <;> try (exfalso; first | omega | (simp at hr; done) | (clear ih ihk; simp_all; done)))
         | refine ⟨_, ok7 _, ?_⟩
         | refine ⟨_, ok8 _, ?_⟩
         | refine ⟨_, ok9 _, ?_⟩
         | refine ⟨_, ok10 _, ?_⟩
         | refine ⟨_, ok11 _, ?_⟩
         | refine ⟨_, ok12 _, ?_⟩
         | refine ⟨_, ok13 _ _, ?_⟩
         | refine ⟨_, ok14 _ _, ?_⟩
         | refine ⟨_, ok15 _ _, ?_⟩
         | refine ⟨_, ok16 _ _, ?_⟩
         | refine ⟨_, ok17, ?_⟩
         | fail
        all_goals (conv => whnf)
        all_goals refine VLoop.norm [5, 7, 8, 9, 10] [5, 16] ?_
        all_goals (conv => whnf)
        all_goals refine ⟨pure_ints (all8 a b), ?_⟩
        all_goals (conv => whnf)
        all_goals exact ihk (IntKind.i64.wrap (k + 1)) (by rw [kw]; omega) (by rw [kw]; omega)
      · skip
        repeat' (conv => whnf); first
         | refine ⟨_, rfl, ?_⟩
         | refine ⟨by first | decide | exact Nat.le_of_ble_eq_true rfl | omega, ?_⟩
         | refine ⟨rfl, ?_⟩
         | fail
        conv => whnf
        refine VLoop.norm [5, 7, 8] [5, 16] ?_
        conv => whnf
        refine ⟨pure_ints (all8 a b), ?_⟩
        conv => whnf
        exact ih (IntKind.i64.wrap (n + 1)) (by rw [hw]; omega) (by rw [hw]; omega)
  · skip
    repeat' (conv => whnf); first
     | refine ⟨_, rfl, ?_⟩
     | refine ⟨by first | decide | exact Nat.le_of_ble_eq_true rfl | omega, ?_⟩
     | refine ⟨rfl, ?_⟩
     | (refine bcase_of (fun hr => ?_) (fun hr => ?_) <;> (try simp only [known, was, is, decide_eq_true_eq, decide_eq_false_iff_not] at hr) <;> try (exfalso; first | omega | (simp at hr; done) | (clear ih; simp_all; done)))
     | refine ⟨_, ok7 _, ?_⟩
     | refine ⟨_, ok8 _, ?_⟩
     | refine ⟨_, ok9 _, ?_⟩
     | refine ⟨_, ok10 _, ?_⟩
     | refine ⟨_, ok11 _, ?_⟩
     | refine ⟨_, ok12 _, ?_⟩
     | refine ⟨_, ok13 _ _, ?_⟩
     | refine ⟨_, ok14 _ _, ?_⟩
     | refine ⟨_, ok15 _ _, ?_⟩
     | refine ⟨_, ok16 _ _, ?_⟩
     | refine ⟨_, ok17, ?_⟩
     | fail
    all_goals (conv => whnf)
    all_goals rfl
theorem ok3 (a b : Int) : ∀ w i : Bool, PTriple Tryd.prog gv 3 [int1 a, int1 b, .agg [.bool w, .bool i]] (.bool true)
  | false, false => ok3ff a b
  | false, true => ok3ft a b
  | true, false => ok3tf a b
  | true, true => ok3tt a b
end Go.Proofs.YtbpfkofokglogaaDoor
