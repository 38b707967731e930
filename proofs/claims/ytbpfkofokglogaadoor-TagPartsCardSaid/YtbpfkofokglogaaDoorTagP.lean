/- What functions of chapter 12 come to (TagP): TagParts. -/
import Derived.Test.YtbpfkofokglogaaDoorTagN
set_option linter.unusedVariables false
set_option linter.unusedSimpArgs false
namespace Go.Proofs.YtbpfkofokglogaaDoor
open Go Go.Vm
set_option maxRecDepth 100000
set_option linter.unusedSimpArgs false
set_option maxHeartbeats 4000000
abbrev bytesV (l : List Int) : V := .lst 1 (l.map fun x => [.int .u8 x])
theorem pure_bytes (l : List Int) : PureEs (l.map fun x => [.int .u8 x]) := fun e he v hv => by
  obtain ⟨x, _, rfl⟩ := List.mem_map.1 he
  cases hv with
  | head => exact .int _ _
  | tail _ h => cases h
def mod4 (x : Int) : Int := IntKind.i64.wrap (x.tmod 4)
theorem mod4_in (x : Int) (h0 : 0 ≤ x) (h1 : x ≤ 255) : mod4 x = x % 4 := by
  unfold mod4
  rw [Int.tmod_eq_emod_of_nonneg h0]
  exact wrap64 (by omega) (by omega)
def mod4s (l : List Int) : List Int := l.map mod4
theorem mod4s_take (l : List Int) (m : Nat) (x : Int) (h : l[m]? = some x) : mod4s (l.take (m + 1)) = mod4s (l.take m) ++ [mod4 x] := by
  obtain ⟨hl, rfl⟩ := List.getElem?_eq_some_iff.1 h
  rw [List.take_succ_eq_append_getElem hl, mod4s, List.map_append]
  rfl
def four (x : Int) : Prop := x = 0 ∨ x = 1 ∨ x = 2 ∨ x = 3
theorem then_four (a b : Int) (ha : four a) (hb : four b) : four (thenV a b).1 := by
  rcases ha with rfl | rfl | rfl | rfl <;> rcases hb with rfl | rfl | rfl | rfl <;> unfold four <;> decide
theorem then_zero (a : Int) (ha : four a) : thenV a 0 = (a, true) := by
  rcases ha with rfl | rfl | rfl | rfl <;> decide
theorem then_assoc (a s t x : Int) (ha : four a) (hs : four s) (hx : four x) (h : thenV a s = (t, true)) (h1 : (thenV s x).2 = true) (h2 : (thenV t x).2 = true) :
    thenV a (thenV s x).1 = ((thenV t x).1, true) := by
  have ht : t = (thenV a s).1 := by rw [h]
  subst ht
  have h' : (thenV a s).2 = true := by rw [h]
  clear h
  rcases ha with rfl | rfl | rfl | rfl <;> rcases hs with rfl | rfl | rfl | rfl <;> rcases hx with rfl | rfl | rfl | rfl <;> revert h' h1 h2 <;> decide
theorem net_four : ∀ (l : List Int) (s : Int), four s → (∀ x ∈ l, four x) → four (netV s l).1
  | [], s, hs, _ => hs
  | x :: r, s, hs, hl => by
    rw [netV]
    split
    · exact net_four r _ (then_four _ _ hs (hl x List.mem_cons_self)) fun y hy => hl y (List.mem_cons_of_mem _ hy)
    · exact .inl rfl
theorem net_app : ∀ (l r : List Int) (s : Int), netV s (l ++ r) = if (netV s l).2 then netV (netV s l).1 r else (0, false)
  | [], r, s => by simp [netV]
  | x :: l, r, s => by
    rw [List.cons_append, netV, netV]
    split
    · exact net_app l r _
    · simp
theorem net_parts : ∀ (y : List Int) (a s t : Int), four a → four s → (∀ x ∈ y, four x) → thenV a s = (t, true) → (netV s y).2 = true → (netV t y).2 = true → thenV a (netV s y).1 = ((netV t y).1, true)
  | [], a, s, t, _, _, _, h, _, _ => h
  | x :: y, a, s, t, ha, hs, hy, h, h1, h2 => by
    rw [netV] at h1 h2 ⊢
    rw [netV]
    split at h1
    · rename_i q1
      split at h2
      · rename_i q2
        rw [if_pos q1, if_pos q2]
        have hx := hy x List.mem_cons_self
        exact net_parts y a _ _ ha (then_four _ _ hs hx) (fun z hz => hy z (List.mem_cons_of_mem _ hz)) (then_assoc a s t x ha hs hx h q1 q2) h1 h2
      · cases h2
    · cases h1
theorem net_false : ∀ (l : List Int) (s : Int), (netV s l).2 = false → (netV s l).1 = 0
  | [], s, h => by cases h
  | x :: r, s, h => by
    rw [netV] at h ⊢
    split
    · rename_i q; rw [if_pos q] at h; exact net_false r _ h
    · rfl
/-- The plain law. -/
theorem parts_law (m : List Int) (k : Nat) (hm : ∀ x ∈ m, four x) : ((netV 0 m).2 = false → (netV 0 m).1 = 0) ∧ ((netV 0 m).2 = true → (netV 0 (m.take k)).2 = true) ∧
    ((netV 0 m).2 = true → (netV 0 (m.drop k)).2 = true → thenV (netV 0 (m.take k)).1 (netV 0 (m.drop k)).1 = ((netV 0 m).1, true)) := by
  refine ⟨net_false m 0, fun h => ?_, fun h h1 => ?_⟩
  · rw [← List.take_append_drop k m, net_app] at h
    cases hq : (netV 0 (m.take k)).2 with
    | true => rfl
    | false => rw [hq] at h; cases h
  · have h' := h
    rw [← List.take_append_drop k m, net_app] at h
    have hq : (netV 0 (m.take k)).2 = true := by
      cases hq : (netV 0 (m.take k)).2 with
      | true => rfl
      | false => rw [hq] at h; cases h
    rw [if_pos hq] at h
    have e : netV 0 m = netV (netV 0 (m.take k)).1 (m.drop k) := by
      conv => lhs; rw [← List.take_append_drop k m, net_app, if_pos hq]
    rw [e]
    have h4 := net_four (m.take k) 0 (.inl rfl) fun x hx => hm x (List.mem_of_mem_take hx)
    exact net_parts _ _ 0 _ h4 (.inl rfl) (fun x hx => hm x (List.mem_of_mem_drop hx)) (then_zero _ h4) h1 h
def st6 (l : List Int) (at_ : Int) (n : Int) (es : List (List V)) (k : Nat) : St Empty := mkSt 84 [(0, bytesV l), (1, .int .u8 at_), (5, .rsl (35, 1) 1 0 k), (6, int1 n)] [(34, .row 1 es false)] []
theorem ok6 (l : List Int) (at_ : Int) (hl : ∀ x ∈ l, 0 ≤ x ∧ x ≤ 255) (hat : 0 ≤ at_ ∧ at_ ≤ 255) : PTriple Tryd.prog gv 6 [bytesV l, .int .u8 at_] (.bool true) := by
  have hwa : IntKind.i64.wrap at_ = at_ := wrap64 (by omega) (by omega)
  cases l with
  | nil =>
    refine PTriple.of_body (C := cx) Tryd.func6 rfl (by kernel_rfl) mixed fun E hE => ?_
    have hz : (IntKind.i64.wrap at_).tmod (IntKind.i64.wrap (0 + 1)) = 0 := by rw [show IntKind.i64.wrap (0 + 1) = 1 by decide, Int.tmod_one]
    repeat' (conv => whnf); first
     | (refine bcase_of (fun hr => ?_) (fun hr => ?_) <;> (try subst hr) <;> try (exfalso; first | (simp at hr; done) | (rename_i hq; rw [hq] at hr; cases hr; done)))
     | (refine And.intro (by first | exact Nat.le_of_ble_eq_true rfl | decide | exact ⟨by rw [hz]; decide, by rw [hz]; decide⟩ | exact pure_nil) ?_)
     | (refine And.intro (by show indep _ _ = true; kernel_rfl) ?_)
     | (refine Exists.intro _ (And.intro (by first | exact rfl | exact ok17 | exact ok13 _ _ | exact ok19 [] (by decide) | exact PTriple.of_nils (ok19 [] (by decide))) ?_))
     | refine VLoop.unroll hE mixed ?_
     | fail
    all_goals (conv => whnf)
    all_goals rfl
  | cons a r =>
    refine PTriple.of_body (C := cx) Tryd.func6 rfl (by kernel_rfl) mixed fun E hE => ?_
    repeat' (conv => whnf); first
     | (refine bcase_of (fun hr => ?_) (fun hr => ?_) <;> skip)
     | (refine And.intro (by first | exact Nat.le_of_ble_eq_true rfl | decide) ?_)
     | (refine And.intro (by show indep _ _ = true; kernel_rfl) ?_)
     | (refine Exists.intro _ (And.intro (by first | exact rfl | exact ok17) ?_))
     | fail
    all_goals (conv => whnf)
    · rfl
    have hl3 : (a :: r).length ≤ 200 := by simp at hr; simp; omega
    refine VLoop.unroll hE mixed ?_
    have ha : (a :: r)[0]? = some a := rfl
    generalize (a :: r) = l at *
    have hlen : (l.map fun x => [V.int .u8 x]).length = l.length := by simp
    have hl0 : 0 < l.length := (List.getElem?_eq_some_iff.1 ha).1
    clear hr
    refine cutLoops (C := cx) (E := E) (b := ?b) (K := ?K) (fun x : Int × List (List V) × Nat => st6 l at_ x.1 x.2.1 x.2.2) (fun x => 1 ≤ x.1 ∧ x.1 ≤ l.length ∧ x.2.2 = x.2.1.length ∧ x.2.2 = x.1.toNat ∧ x.2.1 = (mod4s (l.take x.1.toNat)).map fun y => [int1 y]) (fun key => ?m) ?l
    case m =>
      have e3 : IntKind.i64.wrap (0 + 1) = 1 := by decide
      repeat' (conv => whnf); first
       | (refine bcase_of (fun hr => ?_) (fun hr => ?_) <;> try (exfalso; simp only [hlen, decide_eq_false_iff_not, decide_eq_true_eq] at hr; omega))
       | (refine And.intro (by first | exact Nat.le_of_ble_eq_true rfl | decide | exact ⟨by decide, by rw [hlen]; omega⟩ | exact ⟨Nat.le_of_ble_eq_true rfl, Nat.le_of_ble_eq_true rfl⟩ | exact allOne_one _) ?_)
       | (refine And.intro (by show indep _ _ = true; kernel_rfl) ?_)
       | (refine Exists.intro _ (And.intro (by first | exact rfl | exact (show lget _ _ = some [V.int .u8 a] by rw [lget_eq, List.getElem?_map]; exact congrArg _ ha)) ?_))
       | fail
      all_goals (conv => whnf)
      all_goals refine VLoop.norm [0, 1, 5, 6] [34] ?_
      all_goals (conv => whnf)
      all_goals refine ⟨pure_bytes l, ?_⟩
      all_goals (conv => whnf)
      all_goals refine ⟨pure1 _, ?_⟩
      all_goals (conv => whnf)
      all_goals refine key (IntKind.i64.wrap (0 + 1), _, _) ?_
      all_goals simp only [e3]
      all_goals exact ⟨by decide, by omega, rfl, rfl, by rw [show (1 : Int).toNat = 0 + 1 by decide, mod4s_take l 0 a ha]; rfl⟩
    case l =>
      intro i hi
      refine VLoop.inv (fun x : Int × List (List V) × Nat => st6 l at_ x.1 x.2.1 x.2.2) (fun x => 1 ≤ x.1 ∧ x.1 ≤ l.length ∧ x.2.2 = x.2.1.length ∧ x.2.2 = x.1.toNat ∧ x.2.1 = (mod4s (l.take x.1.toNat)).map fun y => [int1 y]) (fun x => l.length - x.1.toNat) i hi rfl ?_
      rintro ⟨n, es, k⟩ ⟨h1, h2, h3, h4, h5⟩ ih
      simp only at h1 h2 h3 h4 h5 ih
      show VLoop cx E _ (st6 l at_ n es k) _
      refine VLoop.unroll hE mixed ?_
      conv => whnf
      refine bcase_of (fun hr => ?_) (fun hr => ?_)
      · have hn : n < l.length := by simp at hr; omega
        have hw : IntKind.i64.wrap (n + 1) = n + 1 := wrap64 (by omega) (by omega)
        obtain ⟨x, hx⟩ : ∃ x, l[n.toNat]? = some x := ⟨_, List.getElem?_eq_getElem (by omega)⟩
        have hpe : PureEs es := by rw [h5]; exact pure_ints _
        repeat' (conv => whnf); first
         | (refine bcase_of (fun hr => ?_) (fun hr => ?_) <;> skip)
         | (refine And.intro (by first | exact Nat.le_of_ble_eq_true rfl | decide | exact ⟨by omega, by rw [hlen]; omega⟩ | exact room5 h3 (by omega) | exact allOne_one _) ?_)
         | (refine And.intro (by show indep _ _ = true; kernel_rfl) ?_)
         | (refine Exists.intro _ (And.intro (by first | exact rfl | exact (show lget _ _ = some [V.int .u8 x] by rw [lget_eq, List.getElem?_map, hx]; rfl)) ?_))
         | fail
        all_goals (conv => whnf)
        all_goals refine VLoop.norm [0, 1, 5, 6] [34] ?_
        all_goals (conv => whnf)
        all_goals refine ⟨pure_bytes l, ?_⟩
        all_goals (conv => whnf)
        all_goals refine ⟨pure_app hpe k _, ?_⟩
        all_goals (conv => whnf)
        all_goals refine ih (IntKind.i64.wrap (n + 1), (es.drop 0).take k ++ [[int1 (mod4 x)]], k + 1) ?_ ?_
        all_goals simp only [hw]
        all_goals try omega
        refine ⟨by omega, by omega, by simp [h3], by omega, ?_⟩
        rw [show (n + 1).toNat = n.toNat + 1 by omega, mod4s_take l n.toNat _ hx, List.map_append, ← h5, h3]
        simp
      · have hn : n = l.length := by simp at hr; omega
        have he : es = (mod4s l).map fun y => [int1 y] := by rw [h5, hn]; simp
        have hk : k = l.length := by omega
        subst he
        subst hk
        have hlm : (mod4s l).length = l.length := by simp [mod4s]
        clear h5 h4 h3 h1 h2 hr ih hi
        have hm4 : ∀ x ∈ mod4s l, four x := fun x hx => by
          obtain ⟨y, hy, rfl⟩ := List.mem_map.1 hx
          have := hl y hy
          rw [mod4_in y this.1 this.2]
          unfold four
          omega
        have hw : IntKind.i64.wrap (l.length + 1) = l.length + 1 := wrap64 (by omega) (by omega)
        have hm0 : 0 ≤ ((IntKind.i64.wrap at_).tmod (IntKind.i64.wrap (l.length + 1))) ∧ ((IntKind.i64.wrap at_).tmod (IntKind.i64.wrap (l.length + 1))) ≤ l.length := by
          rw [hwa, hw, Int.tmod_eq_emod_of_nonneg hat.1]
          have := Int.emod_nonneg at_ (show (l.length : Int) + 1 ≠ 0 by omega)
          have := Int.emod_lt_of_pos at_ (show 0 < (l.length : Int) + 1 by omega)
          omega
        obtain ⟨law1, law2, law3⟩ := parts_law (mod4s l) ((IntKind.i64.wrap at_).tmod (IntKind.i64.wrap (l.length + 1))).toNat hm4
        have hesl : ((mod4s l).map fun y => [int1 y]).length = l.length := by simp [mod4s]
        have e0 : (((mod4s l).map fun y => [int1 y]).drop 0).take l.length = (mod4s l).map fun y => [int1 y] := by rw [List.drop_zero, ← hesl, List.take_length]
        have e1 : (((mod4s l).map fun y => [int1 y]).drop 0).take (((IntKind.i64.wrap at_).tmod (IntKind.i64.wrap (l.length + 1))).toNat - 0) = ((mod4s l).take ((IntKind.i64.wrap at_).tmod (IntKind.i64.wrap (l.length + 1))).toNat).map fun y => [int1 y] := by simp
        have e2 : (((mod4s l).map fun y => [int1 y]).drop (0 + ((IntKind.i64.wrap at_).tmod (IntKind.i64.wrap (l.length + 1))).toNat)).take (l.length - ((IntKind.i64.wrap at_).tmod (IntKind.i64.wrap (l.length + 1))).toNat) = ((mod4s l).drop ((IntKind.i64.wrap at_).tmod (IntKind.i64.wrap (l.length + 1))).toNat).map fun y => [int1 y] := by
          rw [Nat.zero_add, ← List.map_drop, List.take_of_length_le (by simp; omega)]
        have p0 : PureEs ((((mod4s l).map fun y => [int1 y]).drop 0).take l.length) := by rw [e0]; exact pure_ints _
        have p1 : PureEs ((((mod4s l).map fun y => [int1 y]).drop 0).take (((IntKind.i64.wrap at_).tmod (IntKind.i64.wrap (l.length + 1))).toNat - 0)) := by rw [e1]; exact pure_ints _
        have p2 : PureEs ((((mod4s l).map fun y => [int1 y]).drop (0 + ((IntKind.i64.wrap at_).tmod (IntKind.i64.wrap (l.length + 1))).toNat)).take (l.length - ((IntKind.i64.wrap at_).tmod (IntKind.i64.wrap (l.length + 1))).toNat)) := by rw [e2]; exact pure_ints _
        have n0 : PTriple Tryd.prog gv 19 [.lst 1 ((((mod4s l).map fun y => [int1 y]).drop 0).take l.length)] (pair (netV 0 (mod4s l))) := by rw [e0]; exact ok19 _ (by omega)
        have n1 : PTriple Tryd.prog gv 19 [.lst 1 ((((mod4s l).map fun y => [int1 y]).drop 0).take (((IntKind.i64.wrap at_).tmod (IntKind.i64.wrap (l.length + 1))).toNat - 0))] (pair (netV 0 ((mod4s l).take ((IntKind.i64.wrap at_).tmod (IntKind.i64.wrap (l.length + 1))).toNat))) := by rw [e1]; exact ok19 _ (by simp; omega)
        have n2 : PTriple Tryd.prog gv 19 [.lst 1 ((((mod4s l).map fun y => [int1 y]).drop (0 + ((IntKind.i64.wrap at_).tmod (IntKind.i64.wrap (l.length + 1))).toNat)).take (l.length - ((IntKind.i64.wrap at_).tmod (IntKind.i64.wrap (l.length + 1))).toNat))] (pair (netV 0 ((mod4s l).drop ((IntKind.i64.wrap at_).tmod (IntKind.i64.wrap (l.length + 1))).toNat))) := by rw [e2]; exact ok19 _ (by simp; omega)
        repeat' (conv => whnf); first
         | (refine bcase_of (fun hr => ?_) (fun hr => ?_) <;> try (exfalso; first | (simp at hr; done) | (rename_i hq; rw [hq] at hr; cases hr; done)))
         | (refine And.intro (by first | exact Nat.le_of_ble_eq_true rfl | decide | exact (show IntKind.i64.wrap (l.length + 1) ≠ 0 by rw [hw]; omega) | exact hm0 | exact (show 0 + l.length ≤ _ by rw [hesl]; omega) | exact (show 0 + 0 + (((IntKind.i64.wrap at_).tmod (IntKind.i64.wrap (l.length + 1))).toNat - 0) ≤ _ by rw [hesl]; omega) | exact (show 0 + ((IntKind.i64.wrap at_).tmod (IntKind.i64.wrap (l.length + 1))).toNat + (l.length - ((IntKind.i64.wrap at_).tmod (IntKind.i64.wrap (l.length + 1))).toNat) ≤ _ by rw [hesl]; omega) | exact p0 | exact p1 | exact p2) ?_)
         | (refine And.intro (by show indep _ _ = true; kernel_rfl) ?_)
         | (refine Exists.intro _ (And.intro (by first | exact rfl | exact n0 | exact n1 | exact n2 | exact ok13 _ _ | exact ok17) ?_))
         | fail

        all_goals (conv => whnf)
        all_goals first | rfl | skip
        all_goals exfalso
        all_goals clear e0 e1 e2 p0 p1 p2 n0 n1 n2 hesl hm0 hm4 hE hl hw hlm hl3 hlen hl0 ha hat
        all_goals generalize netV 0 (mod4s l) = A at *
        all_goals generalize netV 0 ((mod4s l).take ((IntKind.i64.wrap at_).tmod (IntKind.i64.wrap (l.length + 1))).toNat) = B at *
        all_goals generalize netV 0 ((mod4s l).drop ((IntKind.i64.wrap at_).tmod (IntKind.i64.wrap (l.length + 1))).toNat) = D at *
        all_goals generalize hTh : thenV B.1 D.1 = Th at *
        all_goals clear hwa
        all_goals obtain ⟨A1, A2⟩ := A
        all_goals obtain ⟨B1, B2⟩ := B
        all_goals obtain ⟨D1, D2⟩ := D
        all_goals simp_all
theorem u8_in {n : Int} (h : (Lit.int .u8 n).wf = true) : 0 ≤ n ∧ n ≤ 255 := by
  simp only [Lit.wf, Bool.and_eq_true, decide_eq_true_eq] at h
  have e1 : IntKind.u8.min = 0 := by decide
  have e2 : IntKind.u8.max = 255 := by decide
  omega
end Go.Proofs.YtbpfkofokglogaaDoor
