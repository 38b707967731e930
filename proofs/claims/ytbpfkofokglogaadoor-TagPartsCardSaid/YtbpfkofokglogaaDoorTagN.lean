/- What functions of chapter 12 come to (TagN): TagNets. -/
import Derived.Test.YtbpfkofokglogaaDoorTagC
import Derived.Test.YtbpfkofokglogaaDoorTagH
set_option linter.unusedVariables false
set_option linter.unusedSimpArgs false
namespace Go.Proofs.YtbpfkofokglogaaDoor
open Go Go.Vm
set_option maxRecDepth 100000
set_option linter.unusedSimpArgs false
set_option maxHeartbeats 4000000
theorem PTriple.of_nils {P : Program} {G : Nat → V} {f : FuncId} {sz : Nat} {r : V} (h : PTriple P G f [.lst sz []] r) : PTriple P G f [.nils] r :=
  ⟨h.1, fun w M args' hG hM hv => h.2 w M args' hG hM (by
    obtain ⟨v', l, rfl, h1, h2⟩ := hv.uncons
    cases h1
    exact .cons .lst0 h2)⟩
theorem pure_nil : PureEs [] := fun e he => by cases he
def mods (l : List Int) : List Int := l.map fun x => modV x 4
def st4a (l : List Int) (n : Int) (es : List (List V)) (k : Nat) : St Empty := mkSt 77 [(0, ints l), (3, .rsl (28, 1) 1 0 k), (4, int1 n)] [(27, .row 1 es false)] []
def st4b (l : List Int) (n : Int) (es : List (List V)) (k : Nat) (fz : Bool) : St Empty := mkSt 77 [(0, ints l), (3, .rsl (28, 1) 1 0 k), (5, int1 n)] [(27, .row 1 es fz)] []
theorem mods_take (l : List Int) (m : Nat) (x : Int) (h : l[m]? = some x) : mods (l.take (m + 1)) = mods (l.take m) ++ [modV x 4] := by
  have hl := (List.getElem?_eq_some_iff.1 h)
  obtain ⟨hl, rfl⟩ := hl
  rw [List.take_succ_eq_append_getElem hl, mods, List.map_append]
  rfl
theorem ok4 (l : List Int) : PTriple Tryd.prog gv 4 [ints l] (.bool true) := by
  cases l with
  | nil =>
    refine PTriple.of_body (C := cx) Tryd.func4 rfl (by kernel_rfl) mixed fun E hE => ?_
    repeat' (conv => whnf); first
     | (refine bcase_of (fun hr => ?_) (fun hr => ?_) <;> try (exfalso; simp at hr; done))
     | (refine And.intro (by first | exact Nat.le_of_ble_eq_true rfl | decide | exact pure_nil) ?_)
     | (refine And.intro (by show indep _ _ = true; kernel_rfl) ?_)
     | (refine Exists.intro _ (And.intro (by first | exact rfl | exact ok17 | exact ok19 [] (by decide) | exact ok20 [] (by decide) | exact PTriple.of_nils (ok19 [] (by decide)) | exact PTriple.of_nils (ok20 [] (by decide))) ?_))
     | refine VLoop.unroll hE mixed ?_
     | fail
    all_goals (conv => whnf)
    all_goals rfl
  | cons a r =>
    refine PTriple.of_body (C := cx) Tryd.func4 rfl (by kernel_rfl) mixed fun E hE => ?_
    repeat' (conv => whnf); first
     | (refine bcase_of (fun hr => ?_) (fun hr => ?_) <;> skip)
     | (refine And.intro (by first | exact Nat.le_of_ble_eq_true rfl | decide) ?_)
     | (refine And.intro (by show indep _ _ = true; kernel_rfl) ?_)
     | (refine Exists.intro _ (And.intro (by first | exact rfl | exact ok17) ?_))
     | fail
    all_goals (conv => whnf)
    · rfl
    have hl3 : (a :: r).length ≤ 200 := by simp at hr; simp; omega
    refine VLoop.unroll hE mixed ?_
    have ha : (a :: r)[0]? = some a := rfl
    generalize (a :: r) = l at *
    have hlen : (l.map fun x => [int1 x]).length = l.length := by simp
    have hl0 : 0 < l.length := (List.getElem?_eq_some_iff.1 ha).1
    clear hr
    refine cutLoops (C := cx) (E := E) (b := ?b) (K := ?K) (fun x : Int × List (List V) × Nat => st4a l x.1 x.2.1 x.2.2) (fun x => 1 ≤ x.1 ∧ x.1 ≤ l.length ∧ x.2.2 = x.2.1.length ∧ x.2.2 = x.1.toNat ∧ x.2.1 = (mods (l.take x.1.toNat)).map fun y => [int1 y]) (fun key => ?m) ?l
    case m =>
      have e3 : IntKind.i64.wrap (0 + 1) = 1 := by decide
      repeat' (conv => whnf); first
       | (refine bcase_of (fun hr => ?_) (fun hr => ?_) <;> try (exfalso; simp only [hlen, decide_eq_false_iff_not, decide_eq_true_eq] at hr; omega))
       | (refine And.intro (by first | exact Nat.le_of_ble_eq_true rfl | decide | exact ⟨by decide, by rw [hlen]; omega⟩ | exact ⟨Nat.le_of_ble_eq_true rfl, Nat.le_of_ble_eq_true rfl⟩ | exact allOne_one _) ?_)
       | (refine And.intro (by show indep _ _ = true; kernel_rfl) ?_)
       | (refine Exists.intro _ (And.intro (by first | exact rfl | exact ok18 _ _ (by decide) | exact (show lget _ _ = some [int1 a] by rw [lget_eq, List.getElem?_map]; exact congrArg _ ha)) ?_))
       | fail
      all_goals (conv => whnf)
      all_goals refine VLoop.norm [0, 3, 4] [27] ?_
      all_goals (conv => whnf)
      all_goals refine ⟨pure_ints l, ?_⟩
      all_goals (conv => whnf)
      all_goals refine ⟨pure1 _, ?_⟩
      all_goals (conv => whnf)
      all_goals refine key (IntKind.i64.wrap (0 + 1), _, _) ?_
      all_goals simp only [e3]
      all_goals exact ⟨by decide, by omega, rfl, rfl, by rw [show (1 : Int).toNat = 0 + 1 by decide, mods_take l 0 a ha]; simp [mods]⟩
    case l =>
      intro i hi
      refine VLoop.inv (fun x : Int × List (List V) × Nat => st4a l x.1 x.2.1 x.2.2) (fun x => 1 ≤ x.1 ∧ x.1 ≤ l.length ∧ x.2.2 = x.2.1.length ∧ x.2.2 = x.1.toNat ∧ x.2.1 = (mods (l.take x.1.toNat)).map fun y => [int1 y]) (fun x => l.length - x.1.toNat) i hi rfl ?_
      rintro ⟨n, es, k⟩ ⟨h1, h2, h3, h4, h5⟩ ih
      simp only at h1 h2 h3 h4 h5 ih
      show VLoop cx E _ (st4a l n es k) _
      refine VLoop.unroll hE mixed ?_
      conv => whnf
      refine bcase_of (fun hr => ?_) (fun hr => ?_)
      · have hn : n < l.length := by simp at hr; omega
        have hw : IntKind.i64.wrap (n + 1) = n + 1 := wrap64 (by omega) (by omega)
        obtain ⟨x, hx⟩ : ∃ x, l[n.toNat]? = some x := ⟨_, List.getElem?_eq_getElem (by omega)⟩
        have hpe : PureEs es := by rw [h5]; exact pure_ints _
        repeat' (conv => whnf); first
         | (refine bcase_of (fun hr => ?_) (fun hr => ?_) <;> skip)
         | (refine And.intro (by first | exact Nat.le_of_ble_eq_true rfl | decide | exact ⟨by omega, by rw [hlen]; omega⟩ | exact room5 h3 (by omega) | exact allOne_one _) ?_)
         | (refine And.intro (by show indep _ _ = true; kernel_rfl) ?_)
         | (refine Exists.intro _ (And.intro (by first | exact rfl | exact ok18 _ _ (by decide) | exact (show lget _ _ = some [int1 x] by rw [lget_eq, List.getElem?_map, hx]; rfl)) ?_))
         | fail
        all_goals (conv => whnf)
        all_goals refine VLoop.norm [0, 3, 4] [27] ?_
        all_goals (conv => whnf)
        all_goals refine ⟨pure_ints l, ?_⟩
        all_goals (conv => whnf)
        all_goals refine ⟨pure_app hpe k _, ?_⟩
        all_goals (conv => whnf)
        all_goals refine ih (IntKind.i64.wrap (n + 1), (es.drop 0).take k ++ [[int1 (modV x 4)]], k + 1) ?_ ?_
        all_goals simp only [hw]
        all_goals try omega
        refine ⟨by omega, by omega, by simp [h3], by omega, ?_⟩
        rw [show (n + 1).toNat = n.toNat + 1 by omega, mods_take l n.toNat _ hx, List.map_append, ← h5, h3]
        simp
      · have hn : n = l.length := by simp at hr; omega
        have he : es = (mods l).map fun y => [int1 y] := by rw [h5, hn]; simp
        have hk : k = l.length := by omega
        subst he
        subst hk
        have hlm : (mods l).length = l.length := by simp [mods]
        clear h5 h4 h3 h1 h2 hr ih hi
        repeat' (conv => whnf); first
         | (refine bcase_of (fun hr => ?_) (fun hr => ?_) <;> skip)
         | (refine And.intro (by first | exact Nat.le_of_ble_eq_true rfl | decide) ?_)
         | (refine And.intro (by show indep _ _ = true; kernel_rfl) ?_)
         | (refine Exists.intro _ (And.intro (by first | exact rfl) ?_))
         | fail
        conv => whnf
        refine VLoop.norm [0, 3, 5] [27] ?_
        conv => whnf
        refine ⟨pure_ints l, ?_⟩
        conv => whnf
        refine ⟨pure_ints (mods l), ?_⟩
        conv => whnf
        refine VLoop.inv (fun x : Int × Bool => st4b l x.1 ((mods l).map fun y => [int1 y]) l.length x.2) (fun x => 0 ≤ x.1 ∧ x.1 ≤ l.length + 1) (fun x => l.length + 1 - x.1.toNat) (0, false) ⟨by omega, by omega⟩ rfl ?_
        rintro ⟨n, fz⟩ ⟨h1, h2⟩ ih
        simp only at h1 h2 ih
        show VLoop cx E _ (st4b l n ((mods l).map fun y => [int1 y]) l.length fz) _
        refine VLoop.unroll hE mixed ?_
        conv => whnf
        refine bcase_of (fun hr => ?_) (fun hr => ?_)
        · have hn : n ≤ l.length := by simp at hr; omega
          have hw : IntKind.i64.wrap (n + 1) = n + 1 := wrap64 (by omega) (by omega)
          have hlt : (l.take n.toNat).length ≤ 1000000 := by simp; omega
          have hmt : ((mods l).take n.toNat).length ≤ 1000000 := by simp; omega
          have e1 : ((l.map fun x => [int1 x]).drop 0).take (n.toNat - 0) = (l.take n.toNat).map fun x => [int1 x] := by simp
          have e2 : (((mods l).map fun x => [int1 x]).drop 0).take (n.toNat - 0) = ((mods l).take n.toNat).map fun x => [int1 x] := by simp
          have p1 : PureEs (((l.map fun x => [int1 x]).drop 0).take (n.toNat - 0)) := by rw [e1]; exact pure_ints _
          have p2 : PureEs (((mods l).map fun x => [int1 x]).drop 0 |>.take (n.toNat - 0)) := by rw [e2]; exact pure_ints _
          have n1 : PTriple Tryd.prog gv 19 [.lst 1 (((l.map fun x => [int1 x]).drop 0).take (n.toNat - 0))] (pair (netV 0 (l.take n.toNat))) := by rw [e1]; exact ok19 _ hlt
          have n2 : PTriple Tryd.prog gv 20 [.lst 1 (((l.map fun x => [int1 x]).drop 0).take (n.toNat - 0))] (pairA (netV 0 (l.take n.toNat))) := by rw [e1]; exact ok20 _ hlt
          have n3 : PTriple Tryd.prog gv 19 [.lst 1 ((((mods l).map fun x => [int1 x]).drop 0).take (n.toNat - 0))] (pair (netV 0 ((mods l).take n.toNat))) := by rw [e2]; exact ok19 _ hmt
          have n4 : PTriple Tryd.prog gv 20 [.lst 1 ((((mods l).map fun x => [int1 x]).drop 0).take (n.toNat - 0))] (pairA (netV 0 ((mods l).take n.toNat))) := by rw [e2]; exact ok20 _ hmt
          repeat' (conv => whnf); first
           | (refine bcase_of (fun hr => ?_) (fun hr => ?_) <;> try (exfalso; first | (simp at hr; done) | (rename_i hq; rw [hq] at hr; cases hr; done)))
           | (refine And.intro (by first | exact Nat.le_of_ble_eq_true rfl | decide | exact ⟨by omega, by rw [hlen]; omega⟩ | exact ⟨by omega, by omega⟩ | omega | exact (show 0 + 0 + (n.toNat - 0) ≤ _ by rw [List.length_map]; omega) | exact p1 | exact p2) ?_)
           | (refine And.intro (by show indep _ _ = true; kernel_rfl) ?_)
           | (refine Exists.intro _ (And.intro (by first | exact rfl | exact n1 | exact n2 | exact n3 | exact n4) ?_))
           | fail
          all_goals (conv => whnf)
          all_goals refine VLoop.norm [0, 3, 5] [27] ?_
          all_goals (conv => whnf)
          all_goals refine ⟨pure_ints l, ?_⟩
          all_goals (conv => whnf)
          all_goals refine ⟨pure_ints (mods l), ?_⟩
          all_goals (conv => whnf)
          all_goals refine ih (IntKind.i64.wrap (n + 1), true) ?_ ?_
          all_goals simp only [hw]
          all_goals omega
        · skip
          repeat' (conv => whnf); first
           | (refine bcase_of (fun hr => ?_) (fun hr => ?_) <;> skip)
           | (refine And.intro (by first | exact Nat.le_of_ble_eq_true rfl | decide) ?_)
           | (refine And.intro (by show indep _ _ = true; kernel_rfl) ?_)
           | (refine Exists.intro _ (And.intro (by first | exact rfl | exact ok17) ?_))
           | fail
          all_goals (conv => whnf)
          all_goals rfl
end Go.Proofs.YtbpfkofokglogaaDoor
