/- A part of the proofs over the seat YtbpfkofokglogaaDoor. -/
import Derived.Test.YtbpfkofokglogaaDoorTagB
set_option linter.unusedVariables false
set_option linter.unusedSimpArgs false
namespace Go.Proofs.YtbpfkofokglogaaDoor
open Go Go.Vm
set_option maxRecDepth 100000
set_option linter.unusedSimpArgs false
theorem netV_bad (s : Int) (l : List Int) : ∀ r, (netV s l).2 = false → netV s (l ++ r) = (0, false) := by
  induction l generalizing s with
  | nil => intro r h; cases h
  | cons x l ih =>
    intro r h
    simp only [netV, List.cons_append] at h ⊢
    split
    · rename_i h1; rw [if_pos h1] at h; exact ih _ r h
    · rfl
def st20 (l : List Int) (n s : Int) (b : Bool) : St Empty := mkSt 24 [(0, ints l), (2, .ref (3, 1) 0), (3, .ref (4, 1) 0), (4, int1 n)] [(2, .box [int1 0, .bool false]), (3, .box [int1 s, .bool b])] []
theorem ok20 (l : List Int) (hl : l.length ≤ 1000000) : PTriple Tryd.prog gv 20 [ints l] (pairA (netV 0 l)) := by
  refine PTriple.of_body (C := cx) Tryd.func20 rfl (by kernel_rfl) mixed fun E hE => ?_
  repeat' (conv => whnf); first
   | refine ⟨_, rfl, ?_⟩
   | refine ⟨by first | decide | exact Nat.le_of_ble_eq_true rfl | omega, ?_⟩
   | fail_if_success (show VLoop _ _ _ _ _)
  conv => whnf
  refine VLoop.norm [0, 2, 3, 4] [2, 3] ?_
  conv => whnf
  refine ⟨pure_ints l, ?_⟩
  conv => whnf
  refine VLoop.inv (fun (x : Int × Int × Bool) => st20 l x.1 x.2.1 x.2.2) (fun x => 0 ≤ x.1 ∧ x.1 ≤ l.length ∧ (if x.2.2 then netV x.2.1 (l.drop x.1.toNat) = netV 0 l else x.2.1 = 0 ∧ netV 0 l = (0, false))) (fun x => l.length - x.1.toNat) (0, 0, true) (by simp) rfl ?_
  rintro ⟨n, s, b⟩ ⟨h1, h2, h3⟩ ih
  simp only at h1 h2 h3 ih
  show VLoop cx E _ (st20 l n s b) _
  refine VLoop.unroll hE mixed ?_
  conv => whnf
  refine bcase_of (fun hb => ?_) (fun hb => ?_)
  · rw [if_pos hb] at h3
    conv => whnf
    refine bcase_of (fun h => ?_) (fun h => ?_)
    · simp only [decide_eq_true_eq, List.length_map] at h
      have hlt : n.toNat < l.length := by omega
      obtain ⟨x, hx⟩ : ∃ x, l[n.toNat]? = some x := ⟨_, List.getElem?_eq_getElem hlt⟩
      have hd : l.drop n.toNat = x :: l.drop (n.toNat + 1) := by
        rw [List.drop_eq_getElem_cons hlt]
        rw [List.getElem?_eq_getElem hlt] at hx
        cases hx; rfl
      have hw : IntKind.i64.wrap (n + 1) = n + 1 := wrap64 (by omega) (by omega)
      rw [hd, netV] at h3
      repeat' (conv => whnf); first
       | refine ⟨_, rfl, ?_⟩
       | refine ⟨by first | decide | exact Nat.le_of_ble_eq_true rfl | omega, ?_⟩
       | refine ⟨rfl, ?_⟩
       | refine ⟨⟨h1, by simpa using h⟩, ?_⟩
       | refine ⟨[int1 x], by rw [lget_eq]; simp [hx], ?_⟩
       | refine ⟨_, ok14 _ _, ?_⟩
       | refine bcase_of (fun hr => ?_) (fun hr => ?_)
       | fail
      all_goals (conv => whnf)
      all_goals refine VLoop.norm [0, 2, 3, 4] [2, 3] ?_
      all_goals (conv => whnf)
      all_goals refine ⟨pure_ints l, ?_⟩
      all_goals (conv => whnf)
      · refine ih (IntKind.i64.wrap (n + 1), (thenV s x).1, true) ?_ ?_
        · simp only [hw]
          refine ⟨by omega, by omega, ?_⟩
          rw [show (n + 1).toNat = n.toNat + 1 by omega]
          simpa [hr] using h3
        · simp only [hw]; omega
      · refine ih (IntKind.i64.wrap (n + 1), (thenV s x).1, false) ?_ ?_
        · simp only [hw]
          refine ⟨by omega, by omega, ?_⟩
          rw [if_neg (by simp [hr])] at h3
          refine ⟨?_, h3.symm⟩
          revert hr
          unfold thenV
          (repeat' split) <;> simp
        · simp only [hw]; omega
    · simp only [decide_eq_false_iff_not, List.length_map] at h
      have hn : n.toNat = l.length := by omega
      rw [hn, List.drop_length, netV] at h3
      repeat' (conv => whnf); first
       | refine ⟨_, rfl, ?_⟩
       | refine ⟨by first | decide | exact Nat.le_of_ble_eq_true rfl | omega, ?_⟩
       | fail
      conv => whnf
      rw [← h3]; rfl
  · rw [if_neg (by simp [hb])] at h3
    repeat' (conv => whnf); first
     | refine ⟨_, rfl, ?_⟩
     | refine ⟨by first | decide | exact Nat.le_of_ble_eq_true rfl | omega, ?_⟩
     | refine bcase_of (fun hr => ?_) (fun hr => ?_)
     | fail
    all_goals (conv => whnf)
    all_goals (rw [h3.2, h3.1]; rfl)
theorem ok17 : PTriple Tryd.prog gv 17 [] (.bool true) := by
  refine PTriple.of_body (C := cx) Tryd.func17 rfl (by kernel_rfl) mixed fun E hE => ?_
  repeat' (conv => whnf); first
   | refine ⟨_, rfl, ?_⟩
   | refine ⟨by first | decide | exact Nat.le_of_ble_eq_true rfl | omega, ?_⟩
   | refine ⟨_, ok13 _ _, ?_⟩
   | refine ⟨_, ok19 [1, 2, 2] (by decide), ?_⟩
   | refine ⟨_, ok15 _ _, ?_⟩
   | refine ⟨_, ok7 _, ?_⟩
   | refine ⟨_, ok9 _, ?_⟩
   | refine ⟨_, ok11 _, ?_⟩
   | refine ⟨pure_ints [1, 2, 2], ?_⟩
   | fail
  all_goals (conv => whnf)
  all_goals rfl
end Go.Proofs.YtbpfkofokglogaaDoor
