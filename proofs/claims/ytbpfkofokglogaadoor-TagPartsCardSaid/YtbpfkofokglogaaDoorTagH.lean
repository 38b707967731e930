/- What functions of chapter 12 come to (TagH): TagStates. -/
import Derived.Test.YtbpfkofokglogaaDoorTagC
set_option linter.unusedVariables false
set_option linter.unusedSimpArgs false
namespace Go.Proofs.YtbpfkofokglogaaDoor
open Go Go.Vm
set_option maxRecDepth 100000
set_option linter.unusedSimpArgs false
set_option maxHeartbeats 4000000
abbrev bools (l : List Bool) : V := .lst 1 (l.map fun x => [.bool x])
theorem pure_bools (l : List Bool) : PureEs (l.map fun x => [.bool x]) := fun e he v hv => by
  obtain ⟨x, _, rfl⟩ := List.mem_map.1 he
  cases hv with
  | head => exact .bool _
  | tail _ h => cases h
theorem allOne_one (n : Int) : allOne [[int1 n]] 1 := fun e he => by
  cases he with
  | head => exact ⟨rfl, rfl⟩
  | tail _ h => cases h
theorem pure1 (n : Int) : PureEs [[int1 n]] := pure_ints [n]
theorem room5 {es : List (List V)} {k m : Nat} (h : k = es.length) (hk : k ≤ 1000) (hm : m = 1 := by rfl) : 0 + k ≤ es.length ∧ (false = true → 0 + k = es.length) ∧ (k + m) * 8 ≤ roomBound ∧ k + m ≤ roomBound := by subst hm; exact ⟨by omega, (by intro h; cases h), (by unfold roomBound; omega), (by unfold roomBound; omega)⟩
theorem pure_app {es : List (List V)} (h : PureEs es) (k : Nat) (v : Int) : PureEs ((es.drop 0).take k ++ [[int1 v]]) := fun e he => by
  rcases List.mem_append.1 he with he | he
  · exact h e (List.mem_of_mem_drop (List.mem_of_mem_take he))
  · exact pure1 v e he
def statesV : List Bool → List Int
  | [] => []
  | [_] => []
  | a :: b :: r => ofV a b :: statesV (b :: r)
def st5 (l : List Bool) (n : Int) (es : List (List V)) (k : Nat) : St Empty := mkSt 58 [(0, bools l), (3, .rsl (35, 1) 1 0 k), (4, int1 n)] [(34, .row 1 es false)] []
theorem states_take : ∀ (l : List Bool) (m : Nat) (x y : Bool), l[m]? = some x → l[m + 1]? = some y → statesV (l.take (m + 2)) = statesV (l.take (m + 1)) ++ [ofV x y]
  | [], _, _, _, h, _ => by simp at h
  | [_], _, _, _, _, h => by simp at h
  | a :: b :: r, 0, x, y, hx, hy => by simp at hx hy; simp [statesV, hx, hy]
  | a :: b :: r, m + 1, x, y, hx, hy => by
    have := states_take (b :: r) m x y (by simpa using hx) (by simpa using hy)
    simp only [List.take_succ_cons] at this ⊢
    simp only [statesV, this, List.cons_append]
theorem then_of : ∀ a b c : Bool, thenV (ofV a b) (ofV b c) = (ofV a c, true) := by decide
theorem net_states : ∀ (l : List Bool) (z a : Bool), netV (ofV z a) (statesV (a :: l)) = (ofV z ((a :: l).getLast (by simp)), true)
  | [], z, a => rfl
  | b :: r, z, a => by
    rw [statesV, netV, then_of, if_pos rfl, net_states r z b]
    simp
theorem states_all (l : List Bool) (h : 2 ≤ l.length) : ∃ x z, l[0]? = some x ∧ l[((l.length : Int) - 1).toNat]? = some z ∧ netV 0 (statesV l) = (ofV x z, true) := by
  match l, h with
  | a :: b :: r, _ =>
    refine ⟨a, (b :: r).getLast (by simp), rfl, ?_, ?_⟩
    · have : (((a :: b :: r).length : Int) - 1).toNat = (b :: r).length := by simp
      rw [this, List.getElem?_eq_getElem (by simp)]
      simp [List.getLast_eq_getElem]
    · rw [statesV, netV]
      have : thenV 0 (ofV a b) = (ofV a b, true) := by cases a <;> cases b <;> decide
      rw [this, if_pos rfl]
      exact net_states r a b
theorem ok5 (l : List Bool) : PTriple Tryd.prog gv 5 [bools l] (.bool true) := by
  refine PTriple.of_body (C := cx) Tryd.func5 rfl (by kernel_rfl) mixed fun E hE => ?_
  repeat' (conv => whnf); first
   | refine ⟨_, rfl, ?_⟩
   | refine ⟨by first | decide | exact Nat.le_of_ble_eq_true rfl, ?_⟩
   | refine ⟨(rfl : indep _ _ = true), ?_⟩
   | (refine bcase_of (fun hr => ?_) (fun hr => ?_) <;> try (exfalso; first | (simp at hr; done) | (simp at hr; omega)))
   | refine ⟨_, ok17, ?_⟩
   | fail
  all_goals (conv => whnf)
  · rfl
  · rfl
  rename_i hlo
  have hhi := hr
  have hl2 : 2 ≤ l.length := by simp at hlo; omega
  have hl3 : l.length ≤ 300 := by simp at hhi; omega
  have hlen : (l.map fun x => [V.bool x]).length = l.length := by simp
  refine VLoop.norm [0, 3, 4] [] ?_
  conv => whnf
  refine ⟨pure_bools l, ?_⟩
  conv => whnf
  refine cutLoops (C := cx) (E := E) (b := ?b) (K := ?K) (fun x : Int × List (List V) × Nat => st5 l x.1 x.2.1 x.2.2) (fun x => 2 ≤ x.1 ∧ x.1 ≤ l.length ∧ x.2.2 = x.2.1.length ∧ x.2.2 + 1 = x.1.toNat ∧ x.2.1 = (statesV (l.take x.1.toNat)).map fun y => [int1 y]) (fun key => ?m) ?l
  case m =>
    obtain ⟨x, hx⟩ : ∃ x, l[0]? = some x := ⟨_, List.getElem?_eq_getElem (by omega)⟩
    obtain ⟨y, hy⟩ : ∃ x, l[1]? = some x := ⟨_, List.getElem?_eq_getElem (by omega)⟩
    have ht : l.take 2 = [x, y] := by
      match l, hx, hy with
      | a :: b :: r, hx, hy => simp at hx hy; simp [hx, hy]
    have e3 : IntKind.i64.wrap (1 + 1) = 2 := by decide
    refine VLoop.unroll hE mixed ?_
    repeat' (conv => whnf); first
     | (refine bcase_of (fun hr => ?_) (fun hr => ?_) <;> try (exfalso; simp at hr; omega))
     | (refine And.intro (by first | exact Nat.le_of_ble_eq_true rfl | decide | exact ⟨by decide, by rw [show IntKind.i64.wrap (1 - 1) = 0 by decide]; simp; omega⟩ | exact ⟨by decide, by simp; omega⟩ | exact ⟨Nat.le_of_ble_eq_true rfl, Nat.le_of_ble_eq_true rfl⟩ | exact allOne_one _) ?_)
     | (refine And.intro (by show indep _ _ = true; kernel_rfl) ?_)
     | (refine Exists.intro _ (And.intro (by first | exact rfl | exact ok15 _ _ | exact (show lget _ _ = some [V.bool x] by rw [lget_eq, List.getElem?_map]; exact congrArg _ hx) | exact (show lget _ _ = some [V.bool y] by rw [lget_eq, List.getElem?_map]; exact congrArg _ hy)) ?_))
     | fail
    all_goals (conv => whnf)
    all_goals refine VLoop.norm [0, 3, 4] [34] ?_
    all_goals (conv => whnf)
    all_goals refine ⟨pure_bools l, ?_⟩
    all_goals (conv => whnf)
    all_goals refine ⟨pure1 _, ?_⟩
    all_goals (conv => whnf)
    all_goals refine key (IntKind.i64.wrap (1 + 1), _, _) ?_
    all_goals simp only [e3]
    all_goals exact ⟨by decide, by omega, rfl, rfl, by rw [show (2 : Int).toNat = 2 by decide, ht]; simp_all [statesV]⟩
  case l =>
    intro i hi
    refine VLoop.inv (fun x : Int × List (List V) × Nat => st5 l x.1 x.2.1 x.2.2) (fun x => 2 ≤ x.1 ∧ x.1 ≤ l.length ∧ x.2.2 = x.2.1.length ∧ x.2.2 + 1 = x.1.toNat ∧ x.2.1 = (statesV (l.take x.1.toNat)).map fun y => [int1 y]) (fun x => l.length - x.1.toNat) i hi rfl ?_
    rintro ⟨n, es, k⟩ ⟨h1, h2, h3, h4, h5⟩ ih
    simp only at h1 h2 h3 h4 h5 ih
    show VLoop cx E _ (st5 l n es k) _
    refine VLoop.unroll hE mixed ?_
    conv => whnf
    refine bcase_of (fun hr => ?_) (fun hr => ?_)
    · have hn : n < l.length := by simp at hr; omega
      have hw : IntKind.i64.wrap (n + 1) = n + 1 := wrap64 (by omega) (by omega)
      have hw1 : IntKind.i64.wrap (n - 1) = n - 1 := wrap64 (by omega) (by omega)
      obtain ⟨x, hx⟩ : ∃ x, l[(n - 1).toNat]? = some x := ⟨_, List.getElem?_eq_getElem (by omega)⟩
      obtain ⟨y, hy⟩ : ∃ x, l[n.toNat]? = some x := ⟨_, List.getElem?_eq_getElem (by omega)⟩
      have hpe : PureEs es := by rw [h5]; exact pure_ints _
      repeat' (conv => whnf); first
       | (refine bcase_of (fun hr => ?_) (fun hr => ?_) <;> skip)
       | (refine And.intro (by first | exact Nat.le_of_ble_eq_true rfl | decide | exact ⟨by rw [hw1]; omega, by rw [hw1, hlen]; omega⟩ | exact ⟨by omega, by rw [hlen]; omega⟩ | exact room5 h3 (by omega) | exact allOne_one _) ?_)
       | (refine And.intro (by show indep _ _ = true; kernel_rfl) ?_)
       | (refine Exists.intro _ (And.intro (by first | exact rfl | exact ok15 _ _ | exact (show lget _ _ = some [V.bool x] by rw [hw1, lget_eq, List.getElem?_map, hx]; rfl) | exact (show lget _ _ = some [V.bool y] by rw [lget_eq, List.getElem?_map, hy]; rfl)) ?_))
       | fail
      all_goals (conv => whnf)
      all_goals refine VLoop.norm [0, 3, 4] [34] ?_
      all_goals (conv => whnf)
      all_goals refine ⟨pure_bools l, ?_⟩
      all_goals (conv => whnf)
      all_goals refine ⟨pure_app hpe k _, ?_⟩
      all_goals (conv => whnf)
      all_goals (rename_i hrx; subst hrx; subst hr)
      all_goals refine ih (IntKind.i64.wrap (n + 1), (es.drop 0).take k ++ [[int1 (ofV _ _)]], k + 1) ?_ ?_
      all_goals try simp only [hw]
      all_goals try omega
      all_goals
        have e1 : n.toNat = (n - 1).toNat + 1 := by omega
        have e2 : (n + 1).toNat = (n - 1).toNat + 2 := by omega
        refine ⟨by omega, by omega, by simp [h3], by omega, ?_⟩
        rw [e2, states_take l (n - 1).toNat _ _ hx (by rw [← e1]; exact hy), ← e1, List.map_append, ← h5, h3]
        simp
    · have hn : n = l.length := by simp at hr; omega
      have hpe : PureEs ((es.drop 0).take k) := fun e he => by
        have he := List.mem_of_mem_drop (List.mem_of_mem_take he)
        rw [h5] at he
        exact pure_ints _ e he
      obtain ⟨x, z, hx, hz, hnet⟩ := states_all l hl2
      have hes : (es.drop 0).take k = (statesV l).map fun y => [int1 y] := by
        rw [h3, List.drop_zero, List.take_length, h5, hn]; simp
      have net : PTriple Tryd.prog gv 19 [.lst 1 ((es.drop 0).take k)] (pair (ofV x z, true)) := by
        rw [hes, ← hnet]
        exact ok19 (statesV l) (by have := congrArg List.length hes; simp at this; omega)
      have hwl : IntKind.i64.wrap ((l.map fun x => [V.bool x]).length - 1) = l.length - 1 := by rw [hlen]; exact wrap64 (by omega) (by omega)
      repeat' (conv => whnf); first
       | (refine bcase_of (fun hr => ?_) (fun hr => ?_) <;> (try subst hr) <;> try (exfalso; simp at hr; done))
       | (refine And.intro (by first | exact Nat.le_of_ble_eq_true rfl | decide | exact (by omega : 0 + k ≤ es.length) | exact ⟨by decide, by rw [hlen]; omega⟩ | exact ⟨by rw [hwl]; omega, by rw [hwl, hlen]; omega⟩ | exact ⟨by omega, by omega⟩ | exact hpe) ?_)
       | (refine And.intro (by show indep _ _ = true; kernel_rfl) ?_)
       | (refine Exists.intro _ (And.intro (by first | exact rfl | exact net | exact ok15 _ _ | exact ok17 | exact (show lget _ _ = some [V.bool x] by rw [lget_eq, List.getElem?_map]; exact congrArg _ hx) | exact (show lget _ _ = some [V.bool z] by rw [hwl, lget_eq, List.getElem?_map, hz]; rfl)) ?_))
       | fail
      all_goals (conv => whnf)
      all_goals rfl
end Go.Proofs.YtbpfkofokglogaaDoor
