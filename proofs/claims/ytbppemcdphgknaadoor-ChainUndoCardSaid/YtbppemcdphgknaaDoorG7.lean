/- G7: merged. -/
import Derived.Test.YtbppemcdphgknaaDoorG6
set_option linter.unusedVariables false
set_option linter.unusedSimpArgs false
/- Chapter 13: ChainReads. -/
namespace Go.Proofs.YtbppemcdphgknaaDoor
open Go Go.Vm
set_option maxRecDepth 100000
set_option maxHeartbeats 40000000
set_option linter.unusedSimpArgs false
set_option linter.unusedVariables false
theorem one_V (xs : List Int) : allOne (VR xs) 1 := fun e he => by
  obtain ⟨x, _, rfl⟩ := List.mem_map.1 he
  exact ⟨rfl, rfl⟩
theorem ra0 (ys : List Int) (h : ys.length ≤ 40) : 0 + 0 ≤ ([] : List (List V)).length ∧ (false = true → 0 + 0 = ([] : List (List V)).length) ∧ (0 + (VR ys).length) * 8 ≤ roomBound ∧ 0 + (VR ys).length ≤ roomBound := ⟨by simp, (by intro h; cases h), by rw [lenV]; unfold roomBound; omega, by rw [lenV]; unfold roomBound; omega⟩
theorem fY (ys : List Int) : (([] : List (List V)).drop 0).take 0 ++ VR ys = VR ys := rfl
theorem alikeO_self (o : Option En) : alikeO o o = true := by
  cases o with
  | none => rfl
  | some x => simp [alikeO]
theorem alike_of {m : Int} {k l : List En} {y : Int} (h : atS m k y = atS m l y) : alikeS m k l y = true := by
  unfold alikeS; rw [h]; exact alikeO_self _
theorem zero_of {m n a b : Int} {p q : RL} (h : mayC m false n a b p q = true) : n = 0 ∧ a = 0 ∧ b = 0 ∧ p = [] ∧ q = [] := by
  simpa [mayC, zeroC] using h
def caseC (m keep : Int) (l : List En) (v f : Int) (c : En) (i : Bool) : List V := [i64V m, i64V keep, chV l, i64V v, i64V f, i64V c.n, i64V c.a, i64V c.b, bagV c.p, bagV c.q, .bool i]
def stR0 (m keep : Int) (l : List En) (v f : Int) (c : En) (i : Bool) (k : List En) (xs : List Int) (j : Nat) : St DV := mkSt 148 [(2, .ref (3, 1) 0), (5, chV k), (7, .rsl (79, 1) 1 0 xs.length), (8, i64V j)] [(2, .box (caseC m keep l v f c i)), (78, .row 1 (VR xs) false)] []
def stR2 (m keep : Int) (l : List En) (v f : Int) (c : En) (i : Bool) (k : List En) (xs : List Int) (j : Nat) : St DV := mkSt 148 [(2, .ref (3, 1) 0), (5, chV k), (7, .lst 1 (VR xs)), (9, i64V j)] [(2, .box (caseC m keep l v f c i))] []
theorem mayCase_okP {m keep : Int} {l : List En} {ver : Int} {c : En} {i : Bool} (h : mayCase m keep l ver c i = true) : lightL l = true ∧ lightB c.p c.q = true ∧ okP m keep l ver c i = true := by
  simp only [mayCase, Bool.and_eq_true, decide_eq_true_eq] at h
  obtain ⟨⟨⟨⟨⟨⟨⟨h1, h2⟩, h3⟩, h4⟩, h5⟩, h6⟩, h7⟩, h8⟩ := h
  exact ⟨h1, h2, okP_iff.2 ⟨h3, h4, h5, h6, h7, h8⟩⟩
theorem reads_ok (m keep v f : Int) (l : List En) (c : En) (i : Bool) (ys : List Int) (h6 : ∀ e ∈ l, En64 e) (hc6 : En64 c) : PTriple Tryd.prog gv 5 [caseV m keep l v f c i, .lst 1 (VR ys)] (.bool true) := by
  have pL := pure_E l
  have lL := lenE l
  have pY := pure_V ys
  have lY := lenV ys
  have pcp := pure_R c.p
  have pcq := pure_R c.q
  have c1 := mayCase_ok m keep l v f c i h6 hc6
  cases h1 : mayCase m keep l v c i with
  | false =>
    rw [h1] at c1
    cases i
    all_goals refine PTriple.of_body (C := cx) Tryd.func5 rfl (by kernel_rfl) mixed fun E hE => ?_
    repeat' (conv => whnf); first
     | (refine bcase_of (fun hr => ?_) (fun hr => ?_) <;> (try simp only [decide_eq_true_eq, decide_eq_false_iff_not, beq_iff_eq, beq_eq_false_iff_ne, ne_eq, bne_iff_ne, bne_eq_false_iff_eq, Bool.not_eq_true, ge_iff_le, gt_iff_lt] at hr) <;> try (exfalso; first | omega | exact hr rfl | (simp at hr; done) | (simp at hr; omega)))
     | (apply And.intro; · first | exact Nat.le_of_ble_eq_true rfl | (show indep _ _ = true; kernel_rfl) | decide | exact ⟨by decide, by decide⟩ | exact ⟨Nat.le_of_ble_eq_true rfl, allOne_of rfl⟩ | exact allOne_of rfl | exact ⟨by omega, by omega⟩ | exact ⟨by omega, by rw [lL]; omega⟩ | exact ⟨by omega, by rw [lenV]; omega⟩ | exact pL | exact pY | exact pcp | exact pcq)
     | (apply Exists.intro; apply And.intro; · first | exact rfl | exact c1 | exact wakes_ok)
     | fail
    all_goals (conv => whnf)
    all_goals rfl
  | true =>
  rw [h1] at c1
  obtain ⟨hli, hlc, hok⟩ := mayCase_okP h1
  have hch := ch_of_light hli h6
  have hl20 := (light_len hli).1
  have hc := in_of_light hlc hc6
  by_cases hn : ys.length ≤ 40
  case neg =>
    cases i
    all_goals refine PTriple.of_body (C := cx) Tryd.func5 rfl (by kernel_rfl) mixed fun E hE => ?_
    repeat' (conv => whnf); first
     | (refine bcase_of (fun hr => ?_) (fun hr => ?_) <;> (try simp only [decide_eq_true_eq, decide_eq_false_iff_not, beq_iff_eq, beq_eq_false_iff_ne, ne_eq, bne_iff_ne, bne_eq_false_iff_eq, Bool.not_eq_true, ge_iff_le, gt_iff_lt] at hr) <;> try (exfalso; first | omega | exact hr rfl | (simp at hr; done) | (simp at hr; omega)))
     | (apply And.intro; · first | exact Nat.le_of_ble_eq_true rfl | (show indep _ _ = true; kernel_rfl) | decide | exact ⟨by decide, by decide⟩ | exact ⟨Nat.le_of_ble_eq_true rfl, allOne_of rfl⟩ | exact allOne_of rfl | exact ⟨by omega, by omega⟩ | exact ⟨by omega, by rw [lL]; omega⟩ | exact ⟨by omega, by rw [lenV]; omega⟩ | exact pL | exact pY | exact pcp | exact pcq)
     | (apply Exists.intro; apply And.intro; · first | exact rfl | exact c1 | exact wakes_ok)
     | fail
    all_goals (conv => whnf)
    all_goals rfl
  case pos =>
  have c2 := Put_ok m keep v f l c i hch (by omega) hc
  obtain ⟨_, hk1, hk2, hv1, _, _⟩ := okP_iff.1 hok
  cases hp : putA m keep l v c i f with
  | none =>
    rw [hp] at c2
    have hk := put_none hp hok
    cases i
    all_goals refine PTriple.of_body (C := cx) Tryd.func5 rfl (by kernel_rfl) mixed fun E hE => ?_
    repeat' (conv => whnf); first
     | (refine bcase_of (fun hr => ?_) (fun hr => ?_) <;> (try simp only [decide_eq_true_eq, decide_eq_false_iff_not, beq_iff_eq, beq_eq_false_iff_ne, ne_eq, bne_iff_ne, bne_eq_false_iff_eq, Bool.not_eq_true, ge_iff_le, gt_iff_lt] at hr) <;> try (exfalso; first | omega | exact hr rfl | (simp at hr; done) | (simp at hr; omega)))
     | (apply And.intro; · first | exact Nat.le_of_ble_eq_true rfl | (show indep _ _ = true; kernel_rfl) | decide | exact ⟨by decide, by decide⟩ | exact ⟨Nat.le_of_ble_eq_true rfl, allOne_of rfl⟩ | exact allOne_of rfl | exact ⟨by omega, by omega⟩ | exact ⟨by omega, by rw [lL]; omega⟩ | exact ⟨by omega, by rw [lenV]; omega⟩ | exact pL | exact pY | exact pcp | exact pcq | exact pure_E [])
     | (apply Exists.intro; apply And.intro; · first | exact rfl | exact c1 | exact c2 | exact wakes_ok)
     | fail
    all_goals (conv => whnf)
    all_goals rfl
  | some k =>
  rw [hp] at c2
  obtain ⟨hkc, hk9⟩ := put_ch hp hch (by omega) hc
  have pK := pure_E k
  have lK := lenE k
  cases i
  all_goals refine PTriple.of_body (C := cx) Tryd.func5 rfl (by kernel_rfl) mixed fun E hE => ?_
  repeat' (conv => whnf); first
   | (refine bcase_of (fun hr => ?_) (fun hr => ?_) <;> (try simp only [decide_eq_true_eq, decide_eq_false_iff_not, beq_iff_eq, beq_eq_false_iff_ne, ne_eq, bne_iff_ne, bne_eq_false_iff_eq, Bool.not_eq_true, ge_iff_le, gt_iff_lt] at hr) <;> try (exfalso; first | omega | exact hr rfl | (simp at hr; done) | (simp at hr; omega)))
   | (apply And.intro; · first | exact Nat.le_of_ble_eq_true rfl | (show indep _ _ = true; kernel_rfl) | decide | exact ⟨by decide, by decide⟩ | exact ⟨Nat.le_of_ble_eq_true rfl, allOne_of rfl⟩ | exact allOne_of rfl | exact ⟨by omega, by omega⟩ | exact ⟨by omega, by rw [lL]; omega⟩ | exact ⟨by omega, by rw [lenV]; omega⟩ | exact pL | exact pK | exact pY | exact pcp | exact pcq | exact one_V ys | exact ra0 ys hn)
   | (apply Exists.intro; apply And.intro; · first | exact rfl | exact c1 | exact c2 | exact wakes_ok)
   | fail
  all_goals (conv => whnf)
  all_goals refine VLoop.move 7 78 ?_
  all_goals (conv => whnf)
  all_goals refine VLoop.norm [2, 5, 7, 8] [2, 78] ?_
  repeat' (conv => whnf); first
   | (refine bcase_of (fun hr => ?_) (fun hr => ?_) <;> (try simp only [decide_eq_true_eq, decide_eq_false_iff_not, beq_iff_eq, beq_eq_false_iff_ne, ne_eq, bne_iff_ne, bne_eq_false_iff_eq, Bool.not_eq_true, ge_iff_le, gt_iff_lt] at hr) <;> try (exfalso; first | omega | exact hr rfl | (simp at hr; done) | (simp at hr; omega)))
   | (apply And.intro; · first | exact Nat.le_of_ble_eq_true rfl | (show indep _ _ = true; kernel_rfl) | decide | exact ⟨by decide, by decide⟩ | exact ⟨Nat.le_of_ble_eq_true rfl, allOne_of rfl⟩ | exact allOne_of rfl | exact ⟨by omega, by omega⟩ | exact ⟨by omega, by rw [lL]; omega⟩ | exact ⟨by omega, by rw [lenV]; omega⟩ | exact pL | exact pK | exact pY | exact pcp | exact pcq)
   | (apply Exists.intro; apply And.intro; · first | exact rfl)
   | fail
  all_goals (conv => whnf)
  all_goals rw [show 0 + (VR ys).length = (ys ++ vers (l.take 0)).length by simp [lenV, vers], show List.take 0 (List.drop 0 ([] : List (List V))) ++ VR ys = VR (ys ++ vers (l.take 0)) by simp [vers]]
  case some.false =>
    skip
    refine VLoop.inv (fun j : Nat => stR0 m keep l v f c false k (ys ++ vers (l.take j)) j) (fun j => j ≤ l.length) (fun j => l.length - j) 0 (Nat.zero_le _) rfl ?_
    intro j hj ih
    simp only at hj ih
    show VLoop cx E _ (stR0 m keep l v f c false k (ys ++ vers (l.take j)) j) _
    obtain ⟨xs, hxs⟩ : ∃ xs, xs = ys ++ vers (l.take j) := ⟨_, rfl⟩
    have hxl : xs.length = ys.length + j := by rw [hxs]; simp [vers]; omega
    rw [← hxs]
    have hw : IntKind.i64.wrap ((j : Int) + 1) = ((j + 1 : Nat) : Int) := wrap64 (by omega) (by omega)
    have pX := pure_V xs
    have lX := lenV xs
    have rowZ : List.take (xs.length + (List.take 2 (List.drop 0 [[i64V v], [i64V f]])).length) (List.drop 0 (List.take xs.length (List.drop 0 (VR xs)) ++ List.take 2 (List.drop 0 [[i64V v], [i64V f]]))) = VR (xs ++ [v, f]) := by
      rw [takeV]; simp [VR]; (try rw [List.take_of_length_le (by simp)])
    refine VLoop.unroll hE mixed ?_
    by_cases hgo : j < l.length
    case pos =>
      obtain ⟨e, he⟩ : ∃ e, l[j]? = some e := ⟨_, List.getElem?_eq_getElem hgo⟩
      have gi := getEc he
      have pp := pure_R e.p
      have pq := pure_R e.q
      have ht := vers_take he
      repeat' (conv => whnf); first
       | (refine bcase_of (fun hr => ?_) (fun hr => ?_) <;> (try simp only [decide_eq_true_eq, decide_eq_false_iff_not, beq_iff_eq, beq_eq_false_iff_ne, ne_eq, bne_iff_ne, bne_eq_false_iff_eq, Bool.not_eq_true, ge_iff_le, gt_iff_lt] at hr) <;> try (exfalso; first | omega | exact hr rfl | (simp at hr; done) | (simp at hr; omega)))
       | (apply And.intro; · first | exact Nat.le_of_ble_eq_true rfl | (show indep _ _ = true; kernel_rfl) | decide | exact ⟨by decide, by decide⟩ | exact ⟨Nat.le_of_ble_eq_true rfl, allOne_of rfl⟩ | exact allOne_of rfl | exact ⟨by omega, by omega⟩ | exact ⟨by omega, by rw [lL]; omega⟩ | exact ⟨by omega, by rw [lenV]; omega⟩ | exact pL | exact pK | exact pX | exact pcp | exact pcq | exact raV _ _ (by simp; omega) | (rw [takeV]; exact pX))
       | (apply Exists.intro; apply And.intro; · first | exact rfl | exact gi)
       | rw [hw]
       | fail
      all_goals (conv => whnf)
      refine VLoop.norm [2, 5, 7, 8] [2, 78] ?_
      repeat' (conv => whnf); first
       | (refine bcase_of (fun hr => ?_) (fun hr => ?_) <;> (try simp only [decide_eq_true_eq, decide_eq_false_iff_not, beq_iff_eq, beq_eq_false_iff_ne, ne_eq, bne_iff_ne, bne_eq_false_iff_eq, Bool.not_eq_true, ge_iff_le, gt_iff_lt] at hr) <;> try (exfalso; first | omega | exact hr rfl | (simp at hr; done) | (simp at hr; omega)))
       | (apply And.intro; · first | exact Nat.le_of_ble_eq_true rfl | (show indep _ _ = true; kernel_rfl) | decide | exact ⟨by decide, by decide⟩ | exact ⟨Nat.le_of_ble_eq_true rfl, allOne_of rfl⟩ | exact allOne_of rfl | exact ⟨by omega, by omega⟩ | exact ⟨by omega, by rw [lL]; omega⟩ | exact ⟨by omega, by rw [lenV]; omega⟩ | exact pL | exact pK | exact pX | exact pcp | exact pcq | (rw [addV]; exact pure_V _))
       | (apply Exists.intro; apply And.intro; · first | exact rfl)
       | fail
      try rw [hw]
      rw [addV, show xs.length + (([[i64V e.v]].drop 0).take 1).length = (xs ++ [e.v]).length by simp]
      have e2 : xs ++ [e.v] = ys ++ vers (l.take (j + 1)) := by rw [ht, hxs, List.append_assoc]
      rw [e2]
      exact ih (j + 1) hgo (by show l.length - (j + 1) < l.length - j; omega)
    case neg =>
      repeat' (conv => whnf); first
       | (refine bcase_of (fun hr => ?_) (fun hr => ?_) <;> (try simp only [decide_eq_true_eq, decide_eq_false_iff_not, beq_iff_eq, beq_eq_false_iff_ne, ne_eq, bne_iff_ne, bne_eq_false_iff_eq, Bool.not_eq_true, ge_iff_le, gt_iff_lt] at hr) <;> try (exfalso; first | omega | exact hr rfl | (simp at hr; done) | (simp at hr; omega)))
       | (apply And.intro; · first | exact Nat.le_of_ble_eq_true rfl | (show indep _ _ = true; kernel_rfl) | decide | exact ⟨by decide, by decide⟩ | exact ⟨Nat.le_of_ble_eq_true rfl, allOne_of rfl⟩ | exact allOne_of rfl | exact ⟨by omega, by omega⟩ | exact ⟨by omega, by rw [lL]; omega⟩ | exact ⟨by omega, by rw [lenV]; omega⟩ | exact pL | exact pK | exact pX | exact pcp | exact pcq | exact raV _ _ (by simp; omega) | (rw [takeV]; exact pX))
       | (apply Exists.intro; apply And.intro; · first | exact rfl)
       | fail
      all_goals (conv => whnf)
      refine VLoop.weak [.snapT 7] ?_
      repeat' (conv => whnf); first
       | (refine bcase_of (fun hr => ?_) (fun hr => ?_) <;> (try simp only [decide_eq_true_eq, decide_eq_false_iff_not, beq_iff_eq, beq_eq_false_iff_ne, ne_eq, bne_iff_ne, bne_eq_false_iff_eq, Bool.not_eq_true, ge_iff_le, gt_iff_lt] at hr) <;> try (exfalso; first | omega | exact hr rfl | (simp at hr; done) | (simp at hr; omega)))
       | (apply And.intro; · first | exact Nat.le_of_ble_eq_true rfl | (show indep _ _ = true; kernel_rfl) | decide | exact ⟨by decide, by decide⟩ | exact ⟨Nat.le_of_ble_eq_true rfl, allOne_of rfl⟩ | exact allOne_of rfl | exact ⟨by omega, by omega⟩ | exact ⟨by omega, by rw [lL]; omega⟩ | exact ⟨by omega, by rw [lenV]; omega⟩ | exact ⟨rfl, by simp [lenV]⟩)
       | (apply Exists.intro; apply And.intro; · first | exact rfl)
       | fail
      refine VLoop.norm [2, 5, 7, 9] [2] ?_
      repeat' (conv => whnf); first
       | (refine bcase_of (fun hr => ?_) (fun hr => ?_) <;> (try simp only [decide_eq_true_eq, decide_eq_false_iff_not, beq_iff_eq, beq_eq_false_iff_ne, ne_eq, bne_iff_ne, bne_eq_false_iff_eq, Bool.not_eq_true, ge_iff_le, gt_iff_lt] at hr) <;> try (exfalso; first | omega | exact hr rfl | (simp at hr; done) | (simp at hr; omega)))
       | (apply And.intro; · first | exact Nat.le_of_ble_eq_true rfl | (show indep _ _ = true; kernel_rfl) | decide | exact ⟨by decide, by decide⟩ | exact ⟨Nat.le_of_ble_eq_true rfl, allOne_of rfl⟩ | exact allOne_of rfl | exact ⟨by omega, by omega⟩ | exact ⟨by omega, by rw [lL]; omega⟩ | exact ⟨by omega, by rw [lenV]; omega⟩ | exact pL | exact pK | exact pX | exact pcp | exact pcq | (rw [rowZ]; exact pure_V _))
       | (apply Exists.intro; apply And.intro; · first | exact rfl)
       | fail
      all_goals (conv => whnf)
      rw [rowZ]
      clear ih hxs
      obtain ⟨zs, hzs⟩ : ∃ zs, zs = xs ++ [v, f] := ⟨_, rfl⟩
      have hzl : zs.length = xs.length + 2 := by rw [hzs]; simp
      rw [← hzs]
      clear hzs
      have pZ := pure_V zs
      have lZ := lenV zs
      refine VLoop.inv (fun n : Nat => stR2 m keep l v f c false k zs n) (fun n => n ≤ zs.length) (fun n => zs.length - n) 0 (Nat.zero_le _) rfl ?_
      intro n hn2 ihn
      simp only at hn2 ihn
      show VLoop cx E _ (stR2 m keep l v f c false k zs n) _
      have hwn : IntKind.i64.wrap ((n : Int) + 1) = ((n + 1 : Nat) : Int) := wrap64 (by omega) (by omega)
      have hwk : IntKind.i64.wrap (keep + 1) = keep + 1 := wrap64 (by omega) (by omega)
      have hlen := (putA_some hp).2.2
      refine VLoop.unroll hE mixed ?_
      by_cases hng : n < zs.length
      case neg =>
        repeat' (conv => whnf); first
         | (refine bcase_of (fun hr => ?_) (fun hr => ?_) <;> (try simp only [decide_eq_true_eq, decide_eq_false_iff_not, beq_iff_eq, beq_eq_false_iff_ne, ne_eq, bne_iff_ne, bne_eq_false_iff_eq, Bool.not_eq_true, ge_iff_le, gt_iff_lt] at hr) <;> try (exfalso; first | omega | exact hr rfl | (simp at hr; done) | (simp at hr; omega)))
         | (apply And.intro; · first | exact Nat.le_of_ble_eq_true rfl | (show indep _ _ = true; kernel_rfl) | decide | exact ⟨by decide, by decide⟩ | exact ⟨Nat.le_of_ble_eq_true rfl, allOne_of rfl⟩ | exact allOne_of rfl | exact ⟨by omega, by omega⟩ | exact ⟨by omega, by rw [lL]; omega⟩ | exact ⟨by omega, by rw [lenV]; omega⟩ | exact pL | exact pK | exact pZ | exact pcp | exact pcq)
         | (apply Exists.intro; apply And.intro; · first | exact rfl | exact wakes_ok)
         | rw [hwk]
         | fail
        all_goals (conv => whnf)
        all_goals first | rfl | (exfalso; omega)
      case pos =>
        obtain ⟨y, hy⟩ : ∃ y, zs[n]? = some y := ⟨_, List.getElem?_eq_getElem hng⟩
        have gy := getV hy
        by_cases hyv : v ≤ y
        case pos =>
          have d1 := At_ok m k y hkc
          have hat := put_there hp hyv
          rw [hat.2 rfl] at d1
          have hz := zero_of (okP_iff.1 hok).2.2.2.2.2
          have d2 := cellSame_ok 0 0 0 c.n c.a c.b [] [] c.p c.q (by decide) (by decide) hc.lp hc.lq
          rw [decide_eq_true (by simp [hz])] at d2
          repeat' (conv => whnf); first
           | (refine bcase_of (fun hr => ?_) (fun hr => ?_) <;> (try simp only [decide_eq_true_eq, decide_eq_false_iff_not, beq_iff_eq, beq_eq_false_iff_ne, ne_eq, bne_iff_ne, bne_eq_false_iff_eq, Bool.not_eq_true, ge_iff_le, gt_iff_lt] at hr) <;> try (exfalso; first | omega | exact hr rfl | (simp at hr; done) | (simp at hr; omega)))
           | (apply And.intro; · first | exact Nat.le_of_ble_eq_true rfl | (show indep _ _ = true; kernel_rfl) | decide | exact ⟨by decide, by decide⟩ | exact ⟨Nat.le_of_ble_eq_true rfl, allOne_of rfl⟩ | exact allOne_of rfl | exact ⟨by omega, by omega⟩ | exact ⟨by omega, by rw [lL]; omega⟩ | exact ⟨by omega, by rw [lenV]; omega⟩ | exact pL | exact pK | exact pZ | exact pcp | exact pcq | exact pure_R [])
           | (apply Exists.intro; apply And.intro; · first | exact rfl | exact d1 | exact d2 | exact gy)
           | rw [hwn]
           | fail
          all_goals (conv => whnf)
          all_goals refine VLoop.norm [2, 5, 7, 9] [2] ?_
          repeat' (conv => whnf); first
           | (refine bcase_of (fun hr => ?_) (fun hr => ?_) <;> (try simp only [decide_eq_true_eq, decide_eq_false_iff_not, beq_iff_eq, beq_eq_false_iff_ne, ne_eq, bne_iff_ne, bne_eq_false_iff_eq, Bool.not_eq_true, ge_iff_le, gt_iff_lt] at hr) <;> try (exfalso; first | omega | exact hr rfl | (simp at hr; done) | (simp at hr; omega)))
           | (apply And.intro; · first | exact Nat.le_of_ble_eq_true rfl | (show indep _ _ = true; kernel_rfl) | decide | exact ⟨by decide, by decide⟩ | exact ⟨Nat.le_of_ble_eq_true rfl, allOne_of rfl⟩ | exact allOne_of rfl | exact ⟨by omega, by omega⟩ | exact ⟨by omega, by rw [lL]; omega⟩ | exact ⟨by omega, by rw [lenV]; omega⟩ | exact pL | exact pK | exact pZ | exact pcp | exact pcq)
           | (apply Exists.intro; apply And.intro; · first | exact rfl)
           | fail
          all_goals try rw [hwn]
          all_goals exact ihn (n + 1) hng (by show zs.length - (n + 1) < zs.length - n; omega)
        case neg =>
          by_cases hyf : f ≤ y
          case pos =>
            have d1 := alike_ok m k l y hkc hch
            rw [alike_of (put_ahead hp (by omega) hyf)] at d1
            repeat' (conv => whnf); first
             | (refine bcase_of (fun hr => ?_) (fun hr => ?_) <;> (try simp only [decide_eq_true_eq, decide_eq_false_iff_not, beq_iff_eq, beq_eq_false_iff_ne, ne_eq, bne_iff_ne, bne_eq_false_iff_eq, Bool.not_eq_true, ge_iff_le, gt_iff_lt] at hr) <;> try (exfalso; first | omega | exact hr rfl | (simp at hr; done) | (simp at hr; omega)))
             | (apply And.intro; · first | exact Nat.le_of_ble_eq_true rfl | (show indep _ _ = true; kernel_rfl) | decide | exact ⟨by decide, by decide⟩ | exact ⟨Nat.le_of_ble_eq_true rfl, allOne_of rfl⟩ | exact allOne_of rfl | exact ⟨by omega, by omega⟩ | exact ⟨by omega, by rw [lL]; omega⟩ | exact ⟨by omega, by rw [lenV]; omega⟩ | exact pL | exact pK | exact pZ | exact pcp | exact pcq)
             | (apply Exists.intro; apply And.intro; · first | exact rfl | exact d1 | exact gy)
             | rw [hwn]
             | fail
            all_goals (conv => whnf)
            all_goals refine VLoop.norm [2, 5, 7, 9] [2] ?_
            repeat' (conv => whnf); first
             | (refine bcase_of (fun hr => ?_) (fun hr => ?_) <;> (try simp only [decide_eq_true_eq, decide_eq_false_iff_not, beq_iff_eq, beq_eq_false_iff_ne, ne_eq, bne_iff_ne, bne_eq_false_iff_eq, Bool.not_eq_true, ge_iff_le, gt_iff_lt] at hr) <;> try (exfalso; first | omega | exact hr rfl | (simp at hr; done) | (simp at hr; omega)))
             | (apply And.intro; · first | exact Nat.le_of_ble_eq_true rfl | (show indep _ _ = true; kernel_rfl) | decide | exact ⟨by decide, by decide⟩ | exact ⟨Nat.le_of_ble_eq_true rfl, allOne_of rfl⟩ | exact allOne_of rfl | exact ⟨by omega, by omega⟩ | exact ⟨by omega, by rw [lL]; omega⟩ | exact ⟨by omega, by rw [lenV]; omega⟩ | exact pL | exact pK | exact pZ | exact pcp | exact pcq)
             | (apply Exists.intro; apply And.intro; · first | exact rfl)
             | fail
            all_goals try rw [hwn]
            all_goals exact ihn (n + 1) hng (by show zs.length - (n + 1) < zs.length - n; omega)
          case neg =>
            repeat' (conv => whnf); first
             | (refine bcase_of (fun hr => ?_) (fun hr => ?_) <;> (try simp only [decide_eq_true_eq, decide_eq_false_iff_not, beq_iff_eq, beq_eq_false_iff_ne, ne_eq, bne_iff_ne, bne_eq_false_iff_eq, Bool.not_eq_true, ge_iff_le, gt_iff_lt] at hr) <;> try (exfalso; first | omega | exact hr rfl | (simp at hr; done) | (simp at hr; omega)))
             | (apply And.intro; · first | exact Nat.le_of_ble_eq_true rfl | (show indep _ _ = true; kernel_rfl) | decide | exact ⟨by decide, by decide⟩ | exact ⟨Nat.le_of_ble_eq_true rfl, allOne_of rfl⟩ | exact allOne_of rfl | exact ⟨by omega, by omega⟩ | exact ⟨by omega, by rw [lL]; omega⟩ | exact ⟨by omega, by rw [lenV]; omega⟩ | exact pL | exact pK | exact pZ | exact pcp | exact pcq)
             | (apply Exists.intro; apply And.intro; · first | exact rfl | exact gy)
             | rw [hwn]
             | fail
            all_goals (conv => whnf)
            all_goals refine VLoop.norm [2, 5, 7, 9] [2] ?_
            repeat' (conv => whnf); first
             | (refine bcase_of (fun hr => ?_) (fun hr => ?_) <;> (try simp only [decide_eq_true_eq, decide_eq_false_iff_not, beq_iff_eq, beq_eq_false_iff_ne, ne_eq, bne_iff_ne, bne_eq_false_iff_eq, Bool.not_eq_true, ge_iff_le, gt_iff_lt] at hr) <;> try (exfalso; first | omega | exact hr rfl | (simp at hr; done) | (simp at hr; omega)))
             | (apply And.intro; · first | exact Nat.le_of_ble_eq_true rfl | (show indep _ _ = true; kernel_rfl) | decide | exact ⟨by decide, by decide⟩ | exact ⟨Nat.le_of_ble_eq_true rfl, allOne_of rfl⟩ | exact allOne_of rfl | exact ⟨by omega, by omega⟩ | exact ⟨by omega, by rw [lL]; omega⟩ | exact ⟨by omega, by rw [lenV]; omega⟩ | exact pL | exact pK | exact pZ | exact pcp | exact pcq)
             | (apply Exists.intro; apply And.intro; · first | exact rfl)
             | fail
            all_goals try rw [hwn]
            all_goals exact ihn (n + 1) hng (by show zs.length - (n + 1) < zs.length - n; omega)
  case some.true =>
    skip
    refine VLoop.inv (fun j : Nat => stR0 m keep l v f c true k (ys ++ vers (l.take j)) j) (fun j => j ≤ l.length) (fun j => l.length - j) 0 (Nat.zero_le _) rfl ?_
    intro j hj ih
    simp only at hj ih
    show VLoop cx E _ (stR0 m keep l v f c true k (ys ++ vers (l.take j)) j) _
    obtain ⟨xs, hxs⟩ : ∃ xs, xs = ys ++ vers (l.take j) := ⟨_, rfl⟩
    have hxl : xs.length = ys.length + j := by rw [hxs]; simp [vers]; omega
    rw [← hxs]
    have hw : IntKind.i64.wrap ((j : Int) + 1) = ((j + 1 : Nat) : Int) := wrap64 (by omega) (by omega)
    have pX := pure_V xs
    have lX := lenV xs
    have rowZ : List.take (xs.length + (List.take 2 (List.drop 0 [[i64V v], [i64V f]])).length) (List.drop 0 (List.take xs.length (List.drop 0 (VR xs)) ++ List.take 2 (List.drop 0 [[i64V v], [i64V f]]))) = VR (xs ++ [v, f]) := by
      rw [takeV]; simp [VR]; (try rw [List.take_of_length_le (by simp)])
    refine VLoop.unroll hE mixed ?_
    by_cases hgo : j < l.length
    case pos =>
      obtain ⟨e, he⟩ : ∃ e, l[j]? = some e := ⟨_, List.getElem?_eq_getElem hgo⟩
      have gi := getEc he
      have pp := pure_R e.p
      have pq := pure_R e.q
      have ht := vers_take he
      repeat' (conv => whnf); first
       | (refine bcase_of (fun hr => ?_) (fun hr => ?_) <;> (try simp only [decide_eq_true_eq, decide_eq_false_iff_not, beq_iff_eq, beq_eq_false_iff_ne, ne_eq, bne_iff_ne, bne_eq_false_iff_eq, Bool.not_eq_true, ge_iff_le, gt_iff_lt] at hr) <;> try (exfalso; first | omega | exact hr rfl | (simp at hr; done) | (simp at hr; omega)))
       | (apply And.intro; · first | exact Nat.le_of_ble_eq_true rfl | (show indep _ _ = true; kernel_rfl) | decide | exact ⟨by decide, by decide⟩ | exact ⟨Nat.le_of_ble_eq_true rfl, allOne_of rfl⟩ | exact allOne_of rfl | exact ⟨by omega, by omega⟩ | exact ⟨by omega, by rw [lL]; omega⟩ | exact ⟨by omega, by rw [lenV]; omega⟩ | exact pL | exact pK | exact pX | exact pcp | exact pcq | exact raV _ _ (by simp; omega) | (rw [takeV]; exact pX))
       | (apply Exists.intro; apply And.intro; · first | exact rfl | exact gi)
       | rw [hw]
       | fail
      all_goals (conv => whnf)
      refine VLoop.norm [2, 5, 7, 8] [2, 78] ?_
      repeat' (conv => whnf); first
       | (refine bcase_of (fun hr => ?_) (fun hr => ?_) <;> (try simp only [decide_eq_true_eq, decide_eq_false_iff_not, beq_iff_eq, beq_eq_false_iff_ne, ne_eq, bne_iff_ne, bne_eq_false_iff_eq, Bool.not_eq_true, ge_iff_le, gt_iff_lt] at hr) <;> try (exfalso; first | omega | exact hr rfl | (simp at hr; done) | (simp at hr; omega)))
       | (apply And.intro; · first | exact Nat.le_of_ble_eq_true rfl | (show indep _ _ = true; kernel_rfl) | decide | exact ⟨by decide, by decide⟩ | exact ⟨Nat.le_of_ble_eq_true rfl, allOne_of rfl⟩ | exact allOne_of rfl | exact ⟨by omega, by omega⟩ | exact ⟨by omega, by rw [lL]; omega⟩ | exact ⟨by omega, by rw [lenV]; omega⟩ | exact pL | exact pK | exact pX | exact pcp | exact pcq | (rw [addV]; exact pure_V _))
       | (apply Exists.intro; apply And.intro; · first | exact rfl)
       | fail
      try rw [hw]
      rw [addV, show xs.length + (([[i64V e.v]].drop 0).take 1).length = (xs ++ [e.v]).length by simp]
      have e2 : xs ++ [e.v] = ys ++ vers (l.take (j + 1)) := by rw [ht, hxs, List.append_assoc]
      rw [e2]
      exact ih (j + 1) hgo (by show l.length - (j + 1) < l.length - j; omega)
    case neg =>
      repeat' (conv => whnf); first
       | (refine bcase_of (fun hr => ?_) (fun hr => ?_) <;> (try simp only [decide_eq_true_eq, decide_eq_false_iff_not, beq_iff_eq, beq_eq_false_iff_ne, ne_eq, bne_iff_ne, bne_eq_false_iff_eq, Bool.not_eq_true, ge_iff_le, gt_iff_lt] at hr) <;> try (exfalso; first | omega | exact hr rfl | (simp at hr; done) | (simp at hr; omega)))
       | (apply And.intro; · first | exact Nat.le_of_ble_eq_true rfl | (show indep _ _ = true; kernel_rfl) | decide | exact ⟨by decide, by decide⟩ | exact ⟨Nat.le_of_ble_eq_true rfl, allOne_of rfl⟩ | exact allOne_of rfl | exact ⟨by omega, by omega⟩ | exact ⟨by omega, by rw [lL]; omega⟩ | exact ⟨by omega, by rw [lenV]; omega⟩ | exact pL | exact pK | exact pX | exact pcp | exact pcq | exact raV _ _ (by simp; omega) | (rw [takeV]; exact pX))
       | (apply Exists.intro; apply And.intro; · first | exact rfl)
       | fail
      all_goals (conv => whnf)
      refine VLoop.weak [.snapT 7] ?_
      repeat' (conv => whnf); first
       | (refine bcase_of (fun hr => ?_) (fun hr => ?_) <;> (try simp only [decide_eq_true_eq, decide_eq_false_iff_not, beq_iff_eq, beq_eq_false_iff_ne, ne_eq, bne_iff_ne, bne_eq_false_iff_eq, Bool.not_eq_true, ge_iff_le, gt_iff_lt] at hr) <;> try (exfalso; first | omega | exact hr rfl | (simp at hr; done) | (simp at hr; omega)))
       | (apply And.intro; · first | exact Nat.le_of_ble_eq_true rfl | (show indep _ _ = true; kernel_rfl) | decide | exact ⟨by decide, by decide⟩ | exact ⟨Nat.le_of_ble_eq_true rfl, allOne_of rfl⟩ | exact allOne_of rfl | exact ⟨by omega, by omega⟩ | exact ⟨by omega, by rw [lL]; omega⟩ | exact ⟨by omega, by rw [lenV]; omega⟩ | exact ⟨rfl, by simp [lenV]⟩)
       | (apply Exists.intro; apply And.intro; · first | exact rfl)
       | fail
      refine VLoop.norm [2, 5, 7, 9] [2] ?_
      repeat' (conv => whnf); first
       | (refine bcase_of (fun hr => ?_) (fun hr => ?_) <;> (try simp only [decide_eq_true_eq, decide_eq_false_iff_not, beq_iff_eq, beq_eq_false_iff_ne, ne_eq, bne_iff_ne, bne_eq_false_iff_eq, Bool.not_eq_true, ge_iff_le, gt_iff_lt] at hr) <;> try (exfalso; first | omega | exact hr rfl | (simp at hr; done) | (simp at hr; omega)))
       | (apply And.intro; · first | exact Nat.le_of_ble_eq_true rfl | (show indep _ _ = true; kernel_rfl) | decide | exact ⟨by decide, by decide⟩ | exact ⟨Nat.le_of_ble_eq_true rfl, allOne_of rfl⟩ | exact allOne_of rfl | exact ⟨by omega, by omega⟩ | exact ⟨by omega, by rw [lL]; omega⟩ | exact ⟨by omega, by rw [lenV]; omega⟩ | exact pL | exact pK | exact pX | exact pcp | exact pcq | (rw [rowZ]; exact pure_V _))
       | (apply Exists.intro; apply And.intro; · first | exact rfl)
       | fail
      all_goals (conv => whnf)
      rw [rowZ]
      clear ih hxs
      obtain ⟨zs, hzs⟩ : ∃ zs, zs = xs ++ [v, f] := ⟨_, rfl⟩
      have hzl : zs.length = xs.length + 2 := by rw [hzs]; simp
      rw [← hzs]
      clear hzs
      have pZ := pure_V zs
      have lZ := lenV zs
      refine VLoop.inv (fun n : Nat => stR2 m keep l v f c true k zs n) (fun n => n ≤ zs.length) (fun n => zs.length - n) 0 (Nat.zero_le _) rfl ?_
      intro n hn2 ihn
      simp only at hn2 ihn
      show VLoop cx E _ (stR2 m keep l v f c true k zs n) _
      have hwn : IntKind.i64.wrap ((n : Int) + 1) = ((n + 1 : Nat) : Int) := wrap64 (by omega) (by omega)
      have hwk : IntKind.i64.wrap (keep + 1) = keep + 1 := wrap64 (by omega) (by omega)
      have hlen := (putA_some hp).2.2
      refine VLoop.unroll hE mixed ?_
      by_cases hng : n < zs.length
      case neg =>
        repeat' (conv => whnf); first
         | (refine bcase_of (fun hr => ?_) (fun hr => ?_) <;> (try simp only [decide_eq_true_eq, decide_eq_false_iff_not, beq_iff_eq, beq_eq_false_iff_ne, ne_eq, bne_iff_ne, bne_eq_false_iff_eq, Bool.not_eq_true, ge_iff_le, gt_iff_lt] at hr) <;> try (exfalso; first | omega | exact hr rfl | (simp at hr; done) | (simp at hr; omega)))
         | (apply And.intro; · first | exact Nat.le_of_ble_eq_true rfl | (show indep _ _ = true; kernel_rfl) | decide | exact ⟨by decide, by decide⟩ | exact ⟨Nat.le_of_ble_eq_true rfl, allOne_of rfl⟩ | exact allOne_of rfl | exact ⟨by omega, by omega⟩ | exact ⟨by omega, by rw [lL]; omega⟩ | exact ⟨by omega, by rw [lenV]; omega⟩ | exact pL | exact pK | exact pZ | exact pcp | exact pcq)
         | (apply Exists.intro; apply And.intro; · first | exact rfl | exact wakes_ok)
         | rw [hwk]
         | fail
        all_goals (conv => whnf)
        all_goals first | rfl | (exfalso; omega)
      case pos =>
        obtain ⟨y, hy⟩ : ∃ y, zs[n]? = some y := ⟨_, List.getElem?_eq_getElem hng⟩
        have gy := getV hy
        by_cases hyv : v ≤ y
        case pos =>
          have d1 := At_ok m k y hkc
          have hat := put_there hp hyv
          obtain ⟨op, hat⟩ := hat.1 rfl
          rw [hat] at d1
          have d2 := cellSame_ok c.n c.a c.b c.n c.a c.b c.p c.q c.p c.q hc.lp hc.lq hc.lp hc.lq
          rw [decide_eq_true (by simp)] at d2
          repeat' (conv => whnf); first
           | (refine bcase_of (fun hr => ?_) (fun hr => ?_) <;> (try simp only [decide_eq_true_eq, decide_eq_false_iff_not, beq_iff_eq, beq_eq_false_iff_ne, ne_eq, bne_iff_ne, bne_eq_false_iff_eq, Bool.not_eq_true, ge_iff_le, gt_iff_lt] at hr) <;> try (exfalso; first | omega | exact hr rfl | (simp at hr; done) | (simp at hr; omega)))
           | (apply And.intro; · first | exact Nat.le_of_ble_eq_true rfl | (show indep _ _ = true; kernel_rfl) | decide | exact ⟨by decide, by decide⟩ | exact ⟨Nat.le_of_ble_eq_true rfl, allOne_of rfl⟩ | exact allOne_of rfl | exact ⟨by omega, by omega⟩ | exact ⟨by omega, by rw [lL]; omega⟩ | exact ⟨by omega, by rw [lenV]; omega⟩ | exact pL | exact pK | exact pZ | exact pcp | exact pcq | exact pure_R [])
           | (apply Exists.intro; apply And.intro; · first | exact rfl | exact d1 | exact d2 | exact gy)
           | rw [hwn]
           | fail
          all_goals (conv => whnf)
          all_goals refine VLoop.norm [2, 5, 7, 9] [2] ?_
          repeat' (conv => whnf); first
           | (refine bcase_of (fun hr => ?_) (fun hr => ?_) <;> (try simp only [decide_eq_true_eq, decide_eq_false_iff_not, beq_iff_eq, beq_eq_false_iff_ne, ne_eq, bne_iff_ne, bne_eq_false_iff_eq, Bool.not_eq_true, ge_iff_le, gt_iff_lt] at hr) <;> try (exfalso; first | omega | exact hr rfl | (simp at hr; done) | (simp at hr; omega)))
           | (apply And.intro; · first | exact Nat.le_of_ble_eq_true rfl | (show indep _ _ = true; kernel_rfl) | decide | exact ⟨by decide, by decide⟩ | exact ⟨Nat.le_of_ble_eq_true rfl, allOne_of rfl⟩ | exact allOne_of rfl | exact ⟨by omega, by omega⟩ | exact ⟨by omega, by rw [lL]; omega⟩ | exact ⟨by omega, by rw [lenV]; omega⟩ | exact pL | exact pK | exact pZ | exact pcp | exact pcq)
           | (apply Exists.intro; apply And.intro; · first | exact rfl)
           | fail
          all_goals try rw [hwn]
          all_goals exact ihn (n + 1) hng (by show zs.length - (n + 1) < zs.length - n; omega)
        case neg =>
          by_cases hyf : f ≤ y
          case pos =>
            have d1 := alike_ok m k l y hkc hch
            rw [alike_of (put_ahead hp (by omega) hyf)] at d1
            repeat' (conv => whnf); first
             | (refine bcase_of (fun hr => ?_) (fun hr => ?_) <;> (try simp only [decide_eq_true_eq, decide_eq_false_iff_not, beq_iff_eq, beq_eq_false_iff_ne, ne_eq, bne_iff_ne, bne_eq_false_iff_eq, Bool.not_eq_true, ge_iff_le, gt_iff_lt] at hr) <;> try (exfalso; first | omega | exact hr rfl | (simp at hr; done) | (simp at hr; omega)))
             | (apply And.intro; · first | exact Nat.le_of_ble_eq_true rfl | (show indep _ _ = true; kernel_rfl) | decide | exact ⟨by decide, by decide⟩ | exact ⟨Nat.le_of_ble_eq_true rfl, allOne_of rfl⟩ | exact allOne_of rfl | exact ⟨by omega, by omega⟩ | exact ⟨by omega, by rw [lL]; omega⟩ | exact ⟨by omega, by rw [lenV]; omega⟩ | exact pL | exact pK | exact pZ | exact pcp | exact pcq)
             | (apply Exists.intro; apply And.intro; · first | exact rfl | exact d1 | exact gy)
             | rw [hwn]
             | fail
            all_goals (conv => whnf)
            all_goals refine VLoop.norm [2, 5, 7, 9] [2] ?_
            repeat' (conv => whnf); first
             | (refine bcase_of (fun hr => ?_) (fun hr => ?_) <;> (try simp only [decide_eq_true_eq, decide_eq_false_iff_not, beq_iff_eq, beq_eq_false_iff_ne, ne_eq, bne_iff_ne, bne_eq_false_iff_eq, Bool.not_eq_true, ge_iff_le, gt_iff_lt] at hr) <;> try (exfalso; first | omega | exact hr rfl | (simp at hr; done) | (simp at hr; omega)))
             | (apply And.intro; · first | exact Nat.le_of_ble_eq_true rfl | (show indep _ _ = true; kernel_rfl) | decide | exact ⟨by decide, by decide⟩ | exact ⟨Nat.le_of_ble_eq_true rfl, allOne_of rfl⟩ | exact allOne_of rfl | exact ⟨by omega, by omega⟩ | exact ⟨by omega, by rw [lL]; omega⟩ | exact ⟨by omega, by rw [lenV]; omega⟩ | exact pL | exact pK | exact pZ | exact pcp | exact pcq)
             | (apply Exists.intro; apply And.intro; · first | exact rfl)
             | fail
            all_goals try rw [hwn]
            all_goals exact ihn (n + 1) hng (by show zs.length - (n + 1) < zs.length - n; omega)
          case neg =>
            repeat' (conv => whnf); first
             | (refine bcase_of (fun hr => ?_) (fun hr => ?_) <;> (try simp only [decide_eq_true_eq, decide_eq_false_iff_not, beq_iff_eq, beq_eq_false_iff_ne, ne_eq, bne_iff_ne, bne_eq_false_iff_eq, Bool.not_eq_true, ge_iff_le, gt_iff_lt] at hr) <;> try (exfalso; first | omega | exact hr rfl | (simp at hr; done) | (simp at hr; omega)))
             | (apply And.intro; · first | exact Nat.le_of_ble_eq_true rfl | (show indep _ _ = true; kernel_rfl) | decide | exact ⟨by decide, by decide⟩ | exact ⟨Nat.le_of_ble_eq_true rfl, allOne_of rfl⟩ | exact allOne_of rfl | exact ⟨by omega, by omega⟩ | exact ⟨by omega, by rw [lL]; omega⟩ | exact ⟨by omega, by rw [lenV]; omega⟩ | exact pL | exact pK | exact pZ | exact pcp | exact pcq)
             | (apply Exists.intro; apply And.intro; · first | exact rfl | exact gy)
             | rw [hwn]
             | fail
            all_goals (conv => whnf)
            all_goals refine VLoop.norm [2, 5, 7, 9] [2] ?_
            repeat' (conv => whnf); first
             | (refine bcase_of (fun hr => ?_) (fun hr => ?_) <;> (try simp only [decide_eq_true_eq, decide_eq_false_iff_not, beq_iff_eq, beq_eq_false_iff_ne, ne_eq, bne_iff_ne, bne_eq_false_iff_eq, Bool.not_eq_true, ge_iff_le, gt_iff_lt] at hr) <;> try (exfalso; first | omega | exact hr rfl | (simp at hr; done) | (simp at hr; omega)))
             | (apply And.intro; · first | exact Nat.le_of_ble_eq_true rfl | (show indep _ _ = true; kernel_rfl) | decide | exact ⟨by decide, by decide⟩ | exact ⟨Nat.le_of_ble_eq_true rfl, allOne_of rfl⟩ | exact allOne_of rfl | exact ⟨by omega, by omega⟩ | exact ⟨by omega, by rw [lL]; omega⟩ | exact ⟨by omega, by rw [lenV]; omega⟩ | exact pL | exact pK | exact pZ | exact pcp | exact pcq)
             | (apply Exists.intro; apply And.intro; · first | exact rfl)
             | fail
            all_goals try rw [hwn]
            all_goals exact ihn (n + 1) hng (by show zs.length - (n + 1) < zs.length - n; omega)
end Go.Proofs.YtbppemcdphgknaaDoor
/- Chapter 13, the plain law: what is undone. -/
namespace Go.Proofs.YtbppemcdphgknaaDoor
open Go Go.Vm
set_option linter.unusedSimpArgs false
set_option linter.unusedVariables false
theorem lastLe_of {l : List En} {ver : Int} (h : ∀ e ∈ l, e.v ≤ ver) : lastLe l ver = true := by
  by_cases hl : l = []
  · subst hl; rfl
  · obtain ⟨a, x, rfl⟩ := snoc_of hl
    rw [lastLe_snoc, decide_eq_true_eq]
    exact h x (by simp)
theorem undo_eq {m : Int} {l : List En} {ver : Int} (h : goodL m l = true) (hle : lastLe l ver = true) : undoS m l ver = lt ver l := by
  have hr := (good_rise h).1
  have hall := lastLe_all hr hle
  unfold undoS
  rw [h]
  simp only
  rw [last_get]
  by_cases hl : l = []
  · subst hl; rfl
  · obtain ⟨a, e, rfl⟩ := snoc_of hl
    have hra := rise_last hr
    simp only [List.getLast?_append, List.getLast?_singleton, Option.some_or]
    split
    · rename_i hv
      rw [lt_append, lt_all (l := a) fun x hx => by have := hra x hx; omega]
      simp [lt, hv]
    · rename_i hv
      refine (lt_all fun x hx => ?_).symm
      have := hall e (by simp)
      rcases List.mem_append.1 hx with hx | hx
      · have := hra x hx; omega
      · rw [List.mem_singleton.1 hx]; omega
theorem undo_zero {m : Int} {l : List En} (h : goodL m l = true) : undoS m l 0 = l := by
  have hp := (good_rise h).2
  unfold undoS
  rw [h]
  simp only
  rw [last_get]
  by_cases hl : l = []
  · subst hl; rfl
  · obtain ⟨a, e, rfl⟩ := snoc_of hl
    have := hp e (by simp)
    simp only [List.getLast?_append, List.getLast?_singleton, Option.some_or]
    rw [if_neg (by omega)]
theorem good_undo {m : Int} {l : List En} {ver : Int} (h : goodL m l = true) : goodL m (undoS m l ver) = true := by
  unfold undoS
  rw [h]
  simp only
  split
  · exact h
  · split
    · refine good_prefix (b := l.drop (l.length - 1)) ?_
      rw [List.take_append_drop]; exact h
    · exact h
/-- In a version of its own: none of the chain is as high. -/
theorem own_lt {m : Int} {l : List En} {ver : Int} (h : goodL m l = true) (hle : lastLe l ver = true) (hne : ∀ e, l[l.length - 1]? = some e → e.v ≠ ver) : ∀ e ∈ l, e.v < ver := by
  have hr := (good_rise h).1
  have hall := lastLe_all hr hle
  by_cases hl : l = []
  · subst hl; intro e he; cases he
  · obtain ⟨a, x, rfl⟩ := snoc_of hl
    have h1 := hne x (by rw [last_get]; simp)
    have h2 := hall x (by simp)
    intro e he
    rcases List.mem_append.1 he with he | he
    · have := rise_last hr e he; omega
    · rw [List.mem_singleton.1 he]; omega
theorem put_undo {m keep : Int} {l : List En} {ver : Int} {c : En} {i : Bool} {floor : Int} {l' : List En} (h : putA m keep l ver c i floor = some l') (hf : floor < ver) (hown : ∀ e ∈ l, e.v < ver) :
    (undoS m l' ver = l ∨ (undoS m l' ver = pruneS m l floor ∧ keep < (l.length : Int))) ∧ undoS m (undoS m l' ver) ver = undoS m l' ver ∧ undoS m l' 0 = l' := by
  have hg := put_good h
  obtain ⟨h1, hl', _⟩ := putA_some h
  obtain ⟨g1, _, _, g4, g5, g6⟩ := okP_iff.1 h1
  obtain ⟨hS, hF⟩ := putS_form g1 g5 g4 g6
  have hSle := putS_le g1 g5 g4 g6
  have hle' : lastLe l' ver = true := lastLe_of fun e he => hSle e (after_mem hS (by rw [← hl']; exact he))
  have hlt : lt ver l = l := lt_all hown
  have hlS := putS_len l ver c i
  have e1 : undoS m l' ver = lt ver l' := undo_eq hg hle'
  have hgu := good_undo (ver := ver) hg
  refine ⟨?_, ?_, undo_zero hg⟩
  · rw [e1, hl']
    unfold afterP
    split
    · rename_i hk
      refine .inr ⟨?_, by omega⟩
      rw [prune_eq hS, prune_eq g1, lt_append]
      have k1 : lo floor (putS l ver c i) = lo floor l := by
        rcases hF with ⟨op, e1, _⟩ | ⟨e1, _⟩
        · rw [e1, hlt, lo_append, lo_none (l := [newE ver op c]) fun e he => by rw [List.mem_singleton.1 he]; exact hf, List.append_nil]
        · rw [e1, hlt]
      have k2 : lt ver (hi floor (putS l ver c i)) = hi floor l := by
        have k3 : lt ver (hi floor l) = hi floor l := lt_all fun e he => hown e (mem_hi.1 he).1
        rcases hF with ⟨op, e1, _⟩ | ⟨e1, _⟩
        · rw [e1, hlt, hi_append, lt_append, k3]
          have : lt ver (hi floor [newE ver op c]) = [] := List.filter_eq_nil_iff.2 fun e he => by
            rw [List.mem_singleton.1 (mem_hi.1 he).1]
            show ¬ decide (ver < ver) = true
            simp
          rw [this, List.append_nil]
        · rw [e1, hlt, k3]
      rw [k1, k2, lt_all fun e he => hown e (mem_lo.1 (mem_cur he).1).1]
    · refine .inl ?_
      rcases hF with ⟨op, e1, _⟩ | ⟨e1, _⟩
      · rw [e1, hlt, lt_append, hlt]
        have : lt ver [newE ver op c] = [] := List.filter_eq_nil_iff.2 fun e he => by
          rw [List.mem_singleton.1 he]
          show ¬ decide (ver < ver) = true
          simp
        rw [this, List.append_nil]
      · rw [e1, hlt, hlt]
  · have h2 : ∀ e ∈ undoS m l' ver, e.v < ver := fun e he => by rw [e1] at he; exact (mem_lt.1 he).2
    rw [undo_eq hgu (lastLe_of fun e he => by have := h2 e he; omega), lt_all h2]
/-- Undone, it was never there. -/
theorem at_undo {m keep : Int} {l : List En} {ver : Int} {c : En} {i : Bool} {floor : Int} {l' : List En} (h : putA m keep l ver c i floor = some l') (hf : floor < ver) (hown : ∀ e ∈ l, e.v < ver) {y : Int} (hy : floor ≤ y) :
    atS m (undoS m l' ver) y = atS m l y := by
  have g1 := (okP_iff.1 (putA_some h).1).1
  rcases (put_undo h hf hown).1 with e | ⟨e, _⟩
  · rw [e]
  · rw [e, at_prune g1 hy]
end Go.Proofs.YtbppemcdphgknaaDoor
/- Chapter 13: ChainUndo. -/
namespace Go.Proofs.YtbppemcdphgknaaDoor
open Go Go.Vm
set_option maxRecDepth 100000
set_option maxHeartbeats 40000000
set_option linter.unusedSimpArgs false
set_option linter.unusedVariables false
def stU0 (m keep : Int) (l : List En) (v f : Int) (c : En) (i : Bool) (k u : List En) (xs : List Int) (j : Nat) : St DV := mkSt 170 [(2, .ref (3, 1) 0), (5, chV k), (7, chV u), (8, .rsl (101, 1) 1 0 xs.length), (9, i64V j)] [(2, .box (caseC m keep l v f c i)), (100, .row 1 (VR xs) false)] []
def stU2 (m keep : Int) (l : List En) (v f : Int) (c : En) (i : Bool) (k u : List En) (xs : List Int) (j : Nat) : St DV := mkSt 170 [(2, .ref (3, 1) 0), (5, chV k), (7, chV u), (8, .lst 1 (VR xs)), (10, i64V j)] [(2, .box (caseC m keep l v f c i))] []
theorem undo_ok (m keep v f : Int) (l : List En) (c : En) (i : Bool) (ys : List Int) (h6 : ∀ e ∈ l, En64 e) (hc6 : En64 c) : PTriple Tryd.prog gv 6 [caseV m keep l v f c i, .lst 1 (VR ys)] (.bool true) := by
  have pL := pure_E l
  have lL := lenE l
  have pY := pure_V ys
  have lY := lenV ys
  have pcp := pure_R c.p
  have pcq := pure_R c.q
  have c1 := mayCase_ok m keep l v f c i h6 hc6
  cases h1 : mayCase m keep l v c i with
  | false =>
    rw [h1] at c1
    cases i
    all_goals refine PTriple.of_body (C := cx) Tryd.func6 rfl (by kernel_rfl) mixed fun E hE => ?_
    repeat' (conv => whnf); first
     | (refine bcase_of (fun hr => ?_) (fun hr => ?_) <;> (try simp only [decide_eq_true_eq, decide_eq_false_iff_not, beq_iff_eq, beq_eq_false_iff_ne, ne_eq, bne_iff_ne, bne_eq_false_iff_eq, Bool.not_eq_true, ge_iff_le, gt_iff_lt] at hr) <;> try (exfalso; first | omega | exact hr rfl | (simp at hr; done) | (simp at hr; omega)))
     | (apply And.intro; · first | exact Nat.le_of_ble_eq_true rfl | (show indep _ _ = true; kernel_rfl) | decide | exact ⟨by decide, by decide⟩ | exact ⟨Nat.le_of_ble_eq_true rfl, allOne_of rfl⟩ | exact allOne_of rfl | exact ⟨by omega, by omega⟩ | exact ⟨by omega, by rw [lL]; omega⟩ | exact ⟨by omega, by rw [lenV]; omega⟩ | exact pL | exact pY | exact pcp | exact pcq)
     | (apply Exists.intro; apply And.intro; · first | exact rfl | exact c1 | exact wakes_ok)
     | fail
    all_goals (conv => whnf)
    all_goals first | rfl | (exfalso; omega)
  | true =>
  rw [h1] at c1
  obtain ⟨hli, hlc, hok⟩ := mayCase_okP h1
  have hch := ch_of_light hli h6
  have hl20 := (light_len hli).1
  have hc := in_of_light hlc hc6
  by_cases hn : ys.length ≤ 40 ∧ f < v
  case neg =>
    cases i
    all_goals refine PTriple.of_body (C := cx) Tryd.func6 rfl (by kernel_rfl) mixed fun E hE => ?_
    repeat' (conv => whnf); first
     | (refine bcase_of (fun hr => ?_) (fun hr => ?_) <;> (try simp only [decide_eq_true_eq, decide_eq_false_iff_not, beq_iff_eq, beq_eq_false_iff_ne, ne_eq, bne_iff_ne, bne_eq_false_iff_eq, Bool.not_eq_true, ge_iff_le, gt_iff_lt] at hr) <;> try (exfalso; first | omega | exact hr rfl | (simp at hr; done) | (simp at hr; omega)))
     | (apply And.intro; · first | exact Nat.le_of_ble_eq_true rfl | (show indep _ _ = true; kernel_rfl) | decide | exact ⟨by decide, by decide⟩ | exact ⟨Nat.le_of_ble_eq_true rfl, allOne_of rfl⟩ | exact allOne_of rfl | exact ⟨by omega, by omega⟩ | exact ⟨by omega, by rw [lL]; omega⟩ | exact ⟨by omega, by rw [lenV]; omega⟩ | exact pL | exact pY | exact pcp | exact pcq)
     | (apply Exists.intro; apply And.intro; · first | exact rfl | exact c1 | exact wakes_ok)
     | fail
    all_goals (conv => whnf)
    all_goals first | rfl | (exfalso; omega)
  case pos =>
  obtain ⟨hn, hfv⟩ := hn
  have c2 := Put_ok m keep v f l c i hch (by omega) hc
  obtain ⟨hgl, hk1, hk2, hv1, hle, _⟩ := okP_iff.1 hok
  have hw0 : IntKind.i64.wrap ((l.length : Int) - 1) = ((l.length : Nat) : Int) - 1 := wrap64 (by omega) (by omega)
  cases hx : l[l.length - 1]? with
  | none =>
    have hn0 : l.length = 0 := by
      rcases Nat.eq_zero_or_pos l.length with h0 | h0
      · exact h0
      · rw [List.getElem?_eq_getElem (by omega)] at hx; cases hx
    have hown := own_lt hgl hle (fun e he => by rw [hx] at he; cases he)
    cases hp : putA m keep l v c i f with
    | none =>
      rw [hp] at c2
      cases i
      all_goals refine PTriple.of_body (C := cx) Tryd.func6 rfl (by kernel_rfl) mixed fun E hE => ?_
      repeat' (conv => whnf); first
       | (refine bcase_of (fun hr => ?_) (fun hr => ?_) <;> (try simp only [decide_eq_true_eq, decide_eq_false_iff_not, beq_iff_eq, beq_eq_false_iff_ne, ne_eq, bne_iff_ne, bne_eq_false_iff_eq, Bool.not_eq_true, ge_iff_le, gt_iff_lt] at hr) <;> try (exfalso; first | omega | exact hr rfl | (simp at hr; done) | (simp at hr; omega)))
       | (apply And.intro; · first | exact Nat.le_of_ble_eq_true rfl | (show indep _ _ = true; kernel_rfl) | decide | exact ⟨by decide, by decide⟩ | exact ⟨Nat.le_of_ble_eq_true rfl, allOne_of rfl⟩ | exact allOne_of rfl | exact ⟨by omega, by omega⟩ | exact ⟨by omega, by rw [lL]; omega⟩ | exact ⟨by omega, by rw [lenV]; omega⟩ | exact pL | exact pY | exact pcp | exact pcq | exact pure_E [])
       | (apply Exists.intro; apply And.intro; · first | exact rfl | exact c1 | exact c2 | exact wakes_ok)
       | fail
      all_goals (conv => whnf)
      all_goals first | rfl | (exfalso; omega)
    | some k =>
      rw [hp] at c2
      obtain ⟨hkc, hk9⟩ := put_ch hp hch (by omega) hc
      have pK := pure_E k
      have lK := lenE k
      obtain ⟨u1, u2, u3⟩ := put_undo hp hfv hown
      have hat := fun y hy => at_undo hp hfv hown (y := y) hy
      have c3 := Undo_ok m k v hkc
      have huc := undoS_ch (m := m) hkc v
      have c4 := Undo_ok m (undoS m k v) v huc
      have c5 := Undo_ok m k 0 hkc
      rw [u2] at c4
      rw [u3] at c5
      have c6 := same_self (undoS m k v) huc
      have c7 := same_self k hkc
      have hul : (l.length : Int) ≤ keep → undoS m k v = l := fun h => by
        rcases u1 with e | ⟨_, e⟩
        · exact e
        · omega
      generalize undoS m k v = u at c3 c4 c6 huc hat hul
      clear u1 u2 u3
      have pU := pure_E u
      have lU := lenE u
      cases i
      all_goals refine PTriple.of_body (C := cx) Tryd.func6 rfl (by kernel_rfl) mixed fun E hE => ?_
      repeat' (conv => whnf); first
       | (refine bcase_of (fun hr => ?_) (fun hr => ?_) <;> (try simp only [decide_eq_true_eq, decide_eq_false_iff_not, beq_iff_eq, beq_eq_false_iff_ne, ne_eq, bne_iff_ne, bne_eq_false_iff_eq, Bool.not_eq_true, ge_iff_le, gt_iff_lt] at hr) <;> try (exfalso; first | omega | exact hr rfl | (simp at hr; done) | (simp at hr; omega)))
       | (apply And.intro; · first | exact Nat.le_of_ble_eq_true rfl | (show indep _ _ = true; kernel_rfl) | decide | exact ⟨by decide, by decide⟩ | exact ⟨Nat.le_of_ble_eq_true rfl, allOne_of rfl⟩ | exact allOne_of rfl | exact ⟨by omega, by omega⟩ | exact ⟨by omega, by rw [lL]; omega⟩ | exact ⟨by omega, by rw [lenV]; omega⟩ | exact pL | exact pY | exact pcp | exact pcq | exact pK | exact pU | exact one_V ys | exact ra0 ys hn)
       | (apply Exists.intro; apply And.intro; · first | exact rfl | exact c1 | exact c2 | exact c3)
       | fail
      all_goals (conv => whnf)
      all_goals refine VLoop.move 8 100 ?_
      all_goals (conv => whnf)
      all_goals refine VLoop.norm [2, 5, 7, 8, 9] [2, 100] ?_
      repeat' (conv => whnf); first
       | (refine bcase_of (fun hr => ?_) (fun hr => ?_) <;> (try simp only [decide_eq_true_eq, decide_eq_false_iff_not, beq_iff_eq, beq_eq_false_iff_ne, ne_eq, bne_iff_ne, bne_eq_false_iff_eq, Bool.not_eq_true, ge_iff_le, gt_iff_lt] at hr) <;> try (exfalso; first | omega | exact hr rfl | (simp at hr; done) | (simp at hr; omega)))
       | (apply And.intro; · first | exact Nat.le_of_ble_eq_true rfl | (show indep _ _ = true; kernel_rfl) | decide | exact ⟨by decide, by decide⟩ | exact ⟨Nat.le_of_ble_eq_true rfl, allOne_of rfl⟩ | exact allOne_of rfl | exact ⟨by omega, by omega⟩ | exact ⟨by omega, by rw [lL]; omega⟩ | exact ⟨by omega, by rw [lenV]; omega⟩ | exact pL | exact pY | exact pcp | exact pcq | exact pK | exact pU | exact one_V ys | exact ra0 ys hn)
       | (apply Exists.intro; apply And.intro; · first | exact rfl)
       | fail
      all_goals (conv => whnf)
      all_goals rw [show 0 + (VR ys).length = (ys ++ vers (l.take 0)).length by simp [lenV, vers], show List.take 0 (List.drop 0 ([] : List (List V))) ++ VR ys = VR (ys ++ vers (l.take 0)) by simp [vers]]
      · skip
        refine VLoop.inv (fun j : Nat => stU0 m keep l v f c false k u (ys ++ vers (l.take j)) j) (fun j => j ≤ l.length) (fun j => l.length - j) 0 (Nat.zero_le _) rfl ?_
        intro j hj ih
        simp only at hj ih
        show VLoop cx E _ (stU0 m keep l v f c false k u (ys ++ vers (l.take j)) j) _
        obtain ⟨xs, hxs⟩ : ∃ xs, xs = ys ++ vers (l.take j) := ⟨_, rfl⟩
        have hxl : xs.length = ys.length + j := by rw [hxs]; simp [vers]; omega
        rw [← hxs]
        have hw : IntKind.i64.wrap ((j : Int) + 1) = ((j + 1 : Nat) : Int) := wrap64 (by omega) (by omega)
        have pX := pure_V xs
        have lX := lenV xs
        have rowZ : List.take (xs.length + (List.take 2 (List.drop 0 [[i64V v], [i64V f]])).length) (List.drop 0 (List.take xs.length (List.drop 0 (VR xs)) ++ List.take 2 (List.drop 0 [[i64V v], [i64V f]]))) = VR (xs ++ [v, f]) := by
          rw [takeV]; simp [VR]; (try rw [List.take_of_length_le (by simp)])
        refine VLoop.unroll hE mixed ?_
        by_cases hgo : j < l.length
        case pos =>
          obtain ⟨e, he⟩ : ∃ e, l[j]? = some e := ⟨_, List.getElem?_eq_getElem hgo⟩
          have gj := getEc he
          have pp := pure_R e.p
          have pq := pure_R e.q
          have ht := vers_take he
          exact absurd hgo (by omega)
        case neg =>
          repeat' (conv => whnf); first
           | (refine bcase_of (fun hr => ?_) (fun hr => ?_) <;> (try simp only [decide_eq_true_eq, decide_eq_false_iff_not, beq_iff_eq, beq_eq_false_iff_ne, ne_eq, bne_iff_ne, bne_eq_false_iff_eq, Bool.not_eq_true, ge_iff_le, gt_iff_lt] at hr) <;> try (exfalso; first | omega | exact hr rfl | (simp at hr; done) | (simp at hr; omega)))
           | (apply And.intro; · first | exact Nat.le_of_ble_eq_true rfl | (show indep _ _ = true; kernel_rfl) | decide | exact ⟨by decide, by decide⟩ | exact ⟨Nat.le_of_ble_eq_true rfl, allOne_of rfl⟩ | exact allOne_of rfl | exact ⟨by omega, by omega⟩ | exact ⟨by omega, by rw [lL]; omega⟩ | exact ⟨by omega, by rw [lenV]; omega⟩ | exact pL | exact pK | exact pU | exact pX | exact pcp | exact pcq | exact raV _ _ (by simp; omega) | (rw [takeV]; exact pX))
           | (apply Exists.intro; apply And.intro; · first | exact rfl)
           | fail
          all_goals (conv => whnf)
          refine VLoop.weak [.snapT 8] ?_
          repeat' (conv => whnf); first
           | (refine bcase_of (fun hr => ?_) (fun hr => ?_) <;> (try simp only [decide_eq_true_eq, decide_eq_false_iff_not, beq_iff_eq, beq_eq_false_iff_ne, ne_eq, bne_iff_ne, bne_eq_false_iff_eq, Bool.not_eq_true, ge_iff_le, gt_iff_lt] at hr) <;> try (exfalso; first | omega | exact hr rfl | (simp at hr; done) | (simp at hr; omega)))
           | (apply And.intro; · first | exact Nat.le_of_ble_eq_true rfl | (show indep _ _ = true; kernel_rfl) | decide | exact ⟨by decide, by decide⟩ | exact ⟨Nat.le_of_ble_eq_true rfl, allOne_of rfl⟩ | exact allOne_of rfl | exact ⟨by omega, by omega⟩ | exact ⟨by omega, by rw [lL]; omega⟩ | exact ⟨by omega, by rw [lenV]; omega⟩ | exact ⟨rfl, by simp [lenV]⟩)
           | (apply Exists.intro; apply And.intro; · first | exact rfl)
           | fail
          refine VLoop.norm [2, 5, 7, 8, 10] [2] ?_
          repeat' (conv => whnf); first
           | (refine bcase_of (fun hr => ?_) (fun hr => ?_) <;> (try simp only [decide_eq_true_eq, decide_eq_false_iff_not, beq_iff_eq, beq_eq_false_iff_ne, ne_eq, bne_iff_ne, bne_eq_false_iff_eq, Bool.not_eq_true, ge_iff_le, gt_iff_lt] at hr) <;> try (exfalso; first | omega | exact hr rfl | (simp at hr; done) | (simp at hr; omega)))
           | (apply And.intro; · first | exact Nat.le_of_ble_eq_true rfl | (show indep _ _ = true; kernel_rfl) | decide | exact ⟨by decide, by decide⟩ | exact ⟨Nat.le_of_ble_eq_true rfl, allOne_of rfl⟩ | exact allOne_of rfl | exact ⟨by omega, by omega⟩ | exact ⟨by omega, by rw [lL]; omega⟩ | exact ⟨by omega, by rw [lenV]; omega⟩ | exact pL | exact pK | exact pU | exact pX | exact pcp | exact pcq | (rw [rowZ]; exact pure_V _))
           | (apply Exists.intro; apply And.intro; · first | exact rfl)
           | fail
          all_goals (conv => whnf)
          rw [rowZ]
          clear ih hxs
          obtain ⟨zs, hzs⟩ : ∃ zs, zs = xs ++ [v, f] := ⟨_, rfl⟩
          have hzl : zs.length = xs.length + 2 := by rw [hzs]; simp
          rw [← hzs]
          clear hzs
          have pZ := pure_V zs
          have lZ := lenV zs
          refine VLoop.inv (fun n : Nat => stU2 m keep l v f c false k u zs n) (fun n => n ≤ zs.length) (fun n => zs.length - n) 0 (Nat.zero_le _) rfl ?_
          intro n hn2 ihn
          simp only at hn2 ihn
          show VLoop cx E _ (stU2 m keep l v f c false k u zs n) _
          have hwn : IntKind.i64.wrap ((n : Int) + 1) = ((n + 1 : Nat) : Int) := wrap64 (by omega) (by omega)
          refine VLoop.unroll hE mixed ?_
          by_cases hng : n < zs.length
          case neg =>
            by_cases hlk : (l.length : Int) ≤ keep
            case pos =>
              have c8 := c6
              rw [hul hlk] at c8
              have hu2 := hul hlk
              subst hu2
              repeat' (conv => whnf); first
               | (refine bcase_of (fun hr => ?_) (fun hr => ?_) <;> (try simp only [decide_eq_true_eq, decide_eq_false_iff_not, beq_iff_eq, beq_eq_false_iff_ne, ne_eq, bne_iff_ne, bne_eq_false_iff_eq, Bool.not_eq_true, ge_iff_le, gt_iff_lt] at hr) <;> try (exfalso; first | omega | exact hr rfl | (simp at hr; done) | (simp at hr; omega)))
               | (apply And.intro; · first | exact Nat.le_of_ble_eq_true rfl | (show indep _ _ = true; kernel_rfl) | decide | exact ⟨by decide, by decide⟩ | exact ⟨Nat.le_of_ble_eq_true rfl, allOne_of rfl⟩ | exact allOne_of rfl | exact ⟨by omega, by omega⟩ | exact ⟨by omega, by rw [lL]; omega⟩ | exact ⟨by omega, by rw [lenV]; omega⟩ | exact pL | exact pK | exact pU | exact pZ | exact pcp | exact pcq)
               | (apply Exists.intro; apply And.intro; · first | exact rfl | exact c4 | exact c5 | exact c6 | exact c7 | exact c8 | exact wakes_ok)
               | fail
              all_goals (conv => whnf)
              all_goals first | rfl | (exfalso; omega)
            case neg =>
              repeat' (conv => whnf); first
               | (refine bcase_of (fun hr => ?_) (fun hr => ?_) <;> (try simp only [decide_eq_true_eq, decide_eq_false_iff_not, beq_iff_eq, beq_eq_false_iff_ne, ne_eq, bne_iff_ne, bne_eq_false_iff_eq, Bool.not_eq_true, ge_iff_le, gt_iff_lt] at hr) <;> try (exfalso; first | omega | exact hr rfl | (simp at hr; done) | (simp at hr; omega)))
               | (apply And.intro; · first | exact Nat.le_of_ble_eq_true rfl | (show indep _ _ = true; kernel_rfl) | decide | exact ⟨by decide, by decide⟩ | exact ⟨Nat.le_of_ble_eq_true rfl, allOne_of rfl⟩ | exact allOne_of rfl | exact ⟨by omega, by omega⟩ | exact ⟨by omega, by rw [lL]; omega⟩ | exact ⟨by omega, by rw [lenV]; omega⟩ | exact pL | exact pK | exact pU | exact pZ | exact pcp | exact pcq)
               | (apply Exists.intro; apply And.intro; · first | exact rfl | exact c4 | exact c5 | exact c6 | exact c7 | exact wakes_ok)
               | fail
              all_goals (conv => whnf)
              all_goals first | rfl | (exfalso; omega)
          case pos =>
            obtain ⟨y, hy⟩ : ∃ y, zs[n]? = some y := ⟨_, List.getElem?_eq_getElem hng⟩
            have gy := getV hy
            by_cases hyf : f ≤ y
            case pos =>
              have d1 := alike_ok m u l y huc hch
              rw [alike_of (hat y hyf)] at d1
              repeat' (conv => whnf); first
               | (refine bcase_of (fun hr => ?_) (fun hr => ?_) <;> (try simp only [decide_eq_true_eq, decide_eq_false_iff_not, beq_iff_eq, beq_eq_false_iff_ne, ne_eq, bne_iff_ne, bne_eq_false_iff_eq, Bool.not_eq_true, ge_iff_le, gt_iff_lt] at hr) <;> try (exfalso; first | omega | exact hr rfl | (simp at hr; done) | (simp at hr; omega)))
               | (apply And.intro; · first | exact Nat.le_of_ble_eq_true rfl | (show indep _ _ = true; kernel_rfl) | decide | exact ⟨by decide, by decide⟩ | exact ⟨Nat.le_of_ble_eq_true rfl, allOne_of rfl⟩ | exact allOne_of rfl | exact ⟨by omega, by omega⟩ | exact ⟨by omega, by rw [lL]; omega⟩ | exact ⟨by omega, by rw [lenV]; omega⟩ | exact pL | exact pK | exact pU | exact pZ | exact pcp | exact pcq)
               | (apply Exists.intro; apply And.intro; · first | exact rfl | exact d1 | exact gy)
               | rw [hwn]
               | fail
              all_goals (conv => whnf)
              all_goals refine VLoop.norm [2, 5, 7, 8, 10] [2] ?_
              repeat' (conv => whnf); first
               | (refine bcase_of (fun hr => ?_) (fun hr => ?_) <;> (try simp only [decide_eq_true_eq, decide_eq_false_iff_not, beq_iff_eq, beq_eq_false_iff_ne, ne_eq, bne_iff_ne, bne_eq_false_iff_eq, Bool.not_eq_true, ge_iff_le, gt_iff_lt] at hr) <;> try (exfalso; first | omega | exact hr rfl | (simp at hr; done) | (simp at hr; omega)))
               | (apply And.intro; · first | exact Nat.le_of_ble_eq_true rfl | (show indep _ _ = true; kernel_rfl) | decide | exact ⟨by decide, by decide⟩ | exact ⟨Nat.le_of_ble_eq_true rfl, allOne_of rfl⟩ | exact allOne_of rfl | exact ⟨by omega, by omega⟩ | exact ⟨by omega, by rw [lL]; omega⟩ | exact ⟨by omega, by rw [lenV]; omega⟩ | exact pL | exact pK | exact pU | exact pZ | exact pcp | exact pcq)
               | (apply Exists.intro; apply And.intro; · first | exact rfl)
               | fail
              all_goals try rw [hwn]
              all_goals exact ihn (n + 1) hng (by show zs.length - (n + 1) < zs.length - n; omega)
            case neg =>
              repeat' (conv => whnf); first
               | (refine bcase_of (fun hr => ?_) (fun hr => ?_) <;> (try simp only [decide_eq_true_eq, decide_eq_false_iff_not, beq_iff_eq, beq_eq_false_iff_ne, ne_eq, bne_iff_ne, bne_eq_false_iff_eq, Bool.not_eq_true, ge_iff_le, gt_iff_lt] at hr) <;> try (exfalso; first | omega | exact hr rfl | (simp at hr; done) | (simp at hr; omega)))
               | (apply And.intro; · first | exact Nat.le_of_ble_eq_true rfl | (show indep _ _ = true; kernel_rfl) | decide | exact ⟨by decide, by decide⟩ | exact ⟨Nat.le_of_ble_eq_true rfl, allOne_of rfl⟩ | exact allOne_of rfl | exact ⟨by omega, by omega⟩ | exact ⟨by omega, by rw [lL]; omega⟩ | exact ⟨by omega, by rw [lenV]; omega⟩ | exact pL | exact pK | exact pU | exact pZ | exact pcp | exact pcq)
               | (apply Exists.intro; apply And.intro; · first | exact rfl | exact gy)
               | rw [hwn]
               | fail
              all_goals (conv => whnf)
              all_goals refine VLoop.norm [2, 5, 7, 8, 10] [2] ?_
              repeat' (conv => whnf); first
               | (refine bcase_of (fun hr => ?_) (fun hr => ?_) <;> (try simp only [decide_eq_true_eq, decide_eq_false_iff_not, beq_iff_eq, beq_eq_false_iff_ne, ne_eq, bne_iff_ne, bne_eq_false_iff_eq, Bool.not_eq_true, ge_iff_le, gt_iff_lt] at hr) <;> try (exfalso; first | omega | exact hr rfl | (simp at hr; done) | (simp at hr; omega)))
               | (apply And.intro; · first | exact Nat.le_of_ble_eq_true rfl | (show indep _ _ = true; kernel_rfl) | decide | exact ⟨by decide, by decide⟩ | exact ⟨Nat.le_of_ble_eq_true rfl, allOne_of rfl⟩ | exact allOne_of rfl | exact ⟨by omega, by omega⟩ | exact ⟨by omega, by rw [lL]; omega⟩ | exact ⟨by omega, by rw [lenV]; omega⟩ | exact pL | exact pK | exact pU | exact pZ | exact pcp | exact pcq)
               | (apply Exists.intro; apply And.intro; · first | exact rfl)
               | fail
              all_goals try rw [hwn]
              all_goals exact ihn (n + 1) hng (by show zs.length - (n + 1) < zs.length - n; omega)
      · skip
        refine VLoop.inv (fun j : Nat => stU0 m keep l v f c true k u (ys ++ vers (l.take j)) j) (fun j => j ≤ l.length) (fun j => l.length - j) 0 (Nat.zero_le _) rfl ?_
        intro j hj ih
        simp only at hj ih
        show VLoop cx E _ (stU0 m keep l v f c true k u (ys ++ vers (l.take j)) j) _
        obtain ⟨xs, hxs⟩ : ∃ xs, xs = ys ++ vers (l.take j) := ⟨_, rfl⟩
        have hxl : xs.length = ys.length + j := by rw [hxs]; simp [vers]; omega
        rw [← hxs]
        have hw : IntKind.i64.wrap ((j : Int) + 1) = ((j + 1 : Nat) : Int) := wrap64 (by omega) (by omega)
        have pX := pure_V xs
        have lX := lenV xs
        have rowZ : List.take (xs.length + (List.take 2 (List.drop 0 [[i64V v], [i64V f]])).length) (List.drop 0 (List.take xs.length (List.drop 0 (VR xs)) ++ List.take 2 (List.drop 0 [[i64V v], [i64V f]]))) = VR (xs ++ [v, f]) := by
          rw [takeV]; simp [VR]; (try rw [List.take_of_length_le (by simp)])
        refine VLoop.unroll hE mixed ?_
        by_cases hgo : j < l.length
        case pos =>
          obtain ⟨e, he⟩ : ∃ e, l[j]? = some e := ⟨_, List.getElem?_eq_getElem hgo⟩
          have gj := getEc he
          have pp := pure_R e.p
          have pq := pure_R e.q
          have ht := vers_take he
          exact absurd hgo (by omega)
        case neg =>
          repeat' (conv => whnf); first
           | (refine bcase_of (fun hr => ?_) (fun hr => ?_) <;> (try simp only [decide_eq_true_eq, decide_eq_false_iff_not, beq_iff_eq, beq_eq_false_iff_ne, ne_eq, bne_iff_ne, bne_eq_false_iff_eq, Bool.not_eq_true, ge_iff_le, gt_iff_lt] at hr) <;> try (exfalso; first | omega | exact hr rfl | (simp at hr; done) | (simp at hr; omega)))
           | (apply And.intro; · first | exact Nat.le_of_ble_eq_true rfl | (show indep _ _ = true; kernel_rfl) | decide | exact ⟨by decide, by decide⟩ | exact ⟨Nat.le_of_ble_eq_true rfl, allOne_of rfl⟩ | exact allOne_of rfl | exact ⟨by omega, by omega⟩ | exact ⟨by omega, by rw [lL]; omega⟩ | exact ⟨by omega, by rw [lenV]; omega⟩ | exact pL | exact pK | exact pU | exact pX | exact pcp | exact pcq | exact raV _ _ (by simp; omega) | (rw [takeV]; exact pX))
           | (apply Exists.intro; apply And.intro; · first | exact rfl)
           | fail
          all_goals (conv => whnf)
          refine VLoop.weak [.snapT 8] ?_
          repeat' (conv => whnf); first
           | (refine bcase_of (fun hr => ?_) (fun hr => ?_) <;> (try simp only [decide_eq_true_eq, decide_eq_false_iff_not, beq_iff_eq, beq_eq_false_iff_ne, ne_eq, bne_iff_ne, bne_eq_false_iff_eq, Bool.not_eq_true, ge_iff_le, gt_iff_lt] at hr) <;> try (exfalso; first | omega | exact hr rfl | (simp at hr; done) | (simp at hr; omega)))
           | (apply And.intro; · first | exact Nat.le_of_ble_eq_true rfl | (show indep _ _ = true; kernel_rfl) | decide | exact ⟨by decide, by decide⟩ | exact ⟨Nat.le_of_ble_eq_true rfl, allOne_of rfl⟩ | exact allOne_of rfl | exact ⟨by omega, by omega⟩ | exact ⟨by omega, by rw [lL]; omega⟩ | exact ⟨by omega, by rw [lenV]; omega⟩ | exact ⟨rfl, by simp [lenV]⟩)
           | (apply Exists.intro; apply And.intro; · first | exact rfl)
           | fail
          refine VLoop.norm [2, 5, 7, 8, 10] [2] ?_
          repeat' (conv => whnf); first
           | (refine bcase_of (fun hr => ?_) (fun hr => ?_) <;> (try simp only [decide_eq_true_eq, decide_eq_false_iff_not, beq_iff_eq, beq_eq_false_iff_ne, ne_eq, bne_iff_ne, bne_eq_false_iff_eq, Bool.not_eq_true, ge_iff_le, gt_iff_lt] at hr) <;> try (exfalso; first | omega | exact hr rfl | (simp at hr; done) | (simp at hr; omega)))
           | (apply And.intro; · first | exact Nat.le_of_ble_eq_true rfl | (show indep _ _ = true; kernel_rfl) | decide | exact ⟨by decide, by decide⟩ | exact ⟨Nat.le_of_ble_eq_true rfl, allOne_of rfl⟩ | exact allOne_of rfl | exact ⟨by omega, by omega⟩ | exact ⟨by omega, by rw [lL]; omega⟩ | exact ⟨by omega, by rw [lenV]; omega⟩ | exact pL | exact pK | exact pU | exact pX | exact pcp | exact pcq | (rw [rowZ]; exact pure_V _))
           | (apply Exists.intro; apply And.intro; · first | exact rfl)
           | fail
          all_goals (conv => whnf)
          rw [rowZ]
          clear ih hxs
          obtain ⟨zs, hzs⟩ : ∃ zs, zs = xs ++ [v, f] := ⟨_, rfl⟩
          have hzl : zs.length = xs.length + 2 := by rw [hzs]; simp
          rw [← hzs]
          clear hzs
          have pZ := pure_V zs
          have lZ := lenV zs
          refine VLoop.inv (fun n : Nat => stU2 m keep l v f c true k u zs n) (fun n => n ≤ zs.length) (fun n => zs.length - n) 0 (Nat.zero_le _) rfl ?_
          intro n hn2 ihn
          simp only at hn2 ihn
          show VLoop cx E _ (stU2 m keep l v f c true k u zs n) _
          have hwn : IntKind.i64.wrap ((n : Int) + 1) = ((n + 1 : Nat) : Int) := wrap64 (by omega) (by omega)
          refine VLoop.unroll hE mixed ?_
          by_cases hng : n < zs.length
          case neg =>
            by_cases hlk : (l.length : Int) ≤ keep
            case pos =>
              have c8 := c6
              rw [hul hlk] at c8
              have hu2 := hul hlk
              subst hu2
              repeat' (conv => whnf); first
               | (refine bcase_of (fun hr => ?_) (fun hr => ?_) <;> (try simp only [decide_eq_true_eq, decide_eq_false_iff_not, beq_iff_eq, beq_eq_false_iff_ne, ne_eq, bne_iff_ne, bne_eq_false_iff_eq, Bool.not_eq_true, ge_iff_le, gt_iff_lt] at hr) <;> try (exfalso; first | omega | exact hr rfl | (simp at hr; done) | (simp at hr; omega)))
               | (apply And.intro; · first | exact Nat.le_of_ble_eq_true rfl | (show indep _ _ = true; kernel_rfl) | decide | exact ⟨by decide, by decide⟩ | exact ⟨Nat.le_of_ble_eq_true rfl, allOne_of rfl⟩ | exact allOne_of rfl | exact ⟨by omega, by omega⟩ | exact ⟨by omega, by rw [lL]; omega⟩ | exact ⟨by omega, by rw [lenV]; omega⟩ | exact pL | exact pK | exact pU | exact pZ | exact pcp | exact pcq)
               | (apply Exists.intro; apply And.intro; · first | exact rfl | exact c4 | exact c5 | exact c6 | exact c7 | exact c8 | exact wakes_ok)
               | fail
              all_goals (conv => whnf)
              all_goals first | rfl | (exfalso; omega)
            case neg =>
              repeat' (conv => whnf); first
               | (refine bcase_of (fun hr => ?_) (fun hr => ?_) <;> (try simp only [decide_eq_true_eq, decide_eq_false_iff_not, beq_iff_eq, beq_eq_false_iff_ne, ne_eq, bne_iff_ne, bne_eq_false_iff_eq, Bool.not_eq_true, ge_iff_le, gt_iff_lt] at hr) <;> try (exfalso; first | omega | exact hr rfl | (simp at hr; done) | (simp at hr; omega)))
               | (apply And.intro; · first | exact Nat.le_of_ble_eq_true rfl | (show indep _ _ = true; kernel_rfl) | decide | exact ⟨by decide, by decide⟩ | exact ⟨Nat.le_of_ble_eq_true rfl, allOne_of rfl⟩ | exact allOne_of rfl | exact ⟨by omega, by omega⟩ | exact ⟨by omega, by rw [lL]; omega⟩ | exact ⟨by omega, by rw [lenV]; omega⟩ | exact pL | exact pK | exact pU | exact pZ | exact pcp | exact pcq)
               | (apply Exists.intro; apply And.intro; · first | exact rfl | exact c4 | exact c5 | exact c6 | exact c7 | exact wakes_ok)
               | fail
              all_goals (conv => whnf)
              all_goals first | rfl | (exfalso; omega)
          case pos =>
            obtain ⟨y, hy⟩ : ∃ y, zs[n]? = some y := ⟨_, List.getElem?_eq_getElem hng⟩
            have gy := getV hy
            by_cases hyf : f ≤ y
            case pos =>
              have d1 := alike_ok m u l y huc hch
              rw [alike_of (hat y hyf)] at d1
              repeat' (conv => whnf); first
               | (refine bcase_of (fun hr => ?_) (fun hr => ?_) <;> (try simp only [decide_eq_true_eq, decide_eq_false_iff_not, beq_iff_eq, beq_eq_false_iff_ne, ne_eq, bne_iff_ne, bne_eq_false_iff_eq, Bool.not_eq_true, ge_iff_le, gt_iff_lt] at hr) <;> try (exfalso; first | omega | exact hr rfl | (simp at hr; done) | (simp at hr; omega)))
               | (apply And.intro; · first | exact Nat.le_of_ble_eq_true rfl | (show indep _ _ = true; kernel_rfl) | decide | exact ⟨by decide, by decide⟩ | exact ⟨Nat.le_of_ble_eq_true rfl, allOne_of rfl⟩ | exact allOne_of rfl | exact ⟨by omega, by omega⟩ | exact ⟨by omega, by rw [lL]; omega⟩ | exact ⟨by omega, by rw [lenV]; omega⟩ | exact pL | exact pK | exact pU | exact pZ | exact pcp | exact pcq)
               | (apply Exists.intro; apply And.intro; · first | exact rfl | exact d1 | exact gy)
               | rw [hwn]
               | fail
              all_goals (conv => whnf)
              all_goals refine VLoop.norm [2, 5, 7, 8, 10] [2] ?_
              repeat' (conv => whnf); first
               | (refine bcase_of (fun hr => ?_) (fun hr => ?_) <;> (try simp only [decide_eq_true_eq, decide_eq_false_iff_not, beq_iff_eq, beq_eq_false_iff_ne, ne_eq, bne_iff_ne, bne_eq_false_iff_eq, Bool.not_eq_true, ge_iff_le, gt_iff_lt] at hr) <;> try (exfalso; first | omega | exact hr rfl | (simp at hr; done) | (simp at hr; omega)))
               | (apply And.intro; · first | exact Nat.le_of_ble_eq_true rfl | (show indep _ _ = true; kernel_rfl) | decide | exact ⟨by decide, by decide⟩ | exact ⟨Nat.le_of_ble_eq_true rfl, allOne_of rfl⟩ | exact allOne_of rfl | exact ⟨by omega, by omega⟩ | exact ⟨by omega, by rw [lL]; omega⟩ | exact ⟨by omega, by rw [lenV]; omega⟩ | exact pL | exact pK | exact pU | exact pZ | exact pcp | exact pcq)
               | (apply Exists.intro; apply And.intro; · first | exact rfl)
               | fail
              all_goals try rw [hwn]
              all_goals exact ihn (n + 1) hng (by show zs.length - (n + 1) < zs.length - n; omega)
            case neg =>
              repeat' (conv => whnf); first
               | (refine bcase_of (fun hr => ?_) (fun hr => ?_) <;> (try simp only [decide_eq_true_eq, decide_eq_false_iff_not, beq_iff_eq, beq_eq_false_iff_ne, ne_eq, bne_iff_ne, bne_eq_false_iff_eq, Bool.not_eq_true, ge_iff_le, gt_iff_lt] at hr) <;> try (exfalso; first | omega | exact hr rfl | (simp at hr; done) | (simp at hr; omega)))
               | (apply And.intro; · first | exact Nat.le_of_ble_eq_true rfl | (show indep _ _ = true; kernel_rfl) | decide | exact ⟨by decide, by decide⟩ | exact ⟨Nat.le_of_ble_eq_true rfl, allOne_of rfl⟩ | exact allOne_of rfl | exact ⟨by omega, by omega⟩ | exact ⟨by omega, by rw [lL]; omega⟩ | exact ⟨by omega, by rw [lenV]; omega⟩ | exact pL | exact pK | exact pU | exact pZ | exact pcp | exact pcq)
               | (apply Exists.intro; apply And.intro; · first | exact rfl | exact gy)
               | rw [hwn]
               | fail
              all_goals (conv => whnf)
              all_goals refine VLoop.norm [2, 5, 7, 8, 10] [2] ?_
              repeat' (conv => whnf); first
               | (refine bcase_of (fun hr => ?_) (fun hr => ?_) <;> (try simp only [decide_eq_true_eq, decide_eq_false_iff_not, beq_iff_eq, beq_eq_false_iff_ne, ne_eq, bne_iff_ne, bne_eq_false_iff_eq, Bool.not_eq_true, ge_iff_le, gt_iff_lt] at hr) <;> try (exfalso; first | omega | exact hr rfl | (simp at hr; done) | (simp at hr; omega)))
               | (apply And.intro; · first | exact Nat.le_of_ble_eq_true rfl | (show indep _ _ = true; kernel_rfl) | decide | exact ⟨by decide, by decide⟩ | exact ⟨Nat.le_of_ble_eq_true rfl, allOne_of rfl⟩ | exact allOne_of rfl | exact ⟨by omega, by omega⟩ | exact ⟨by omega, by rw [lL]; omega⟩ | exact ⟨by omega, by rw [lenV]; omega⟩ | exact pL | exact pK | exact pU | exact pZ | exact pcp | exact pcq)
               | (apply Exists.intro; apply And.intro; · first | exact rfl)
               | fail
              all_goals try rw [hwn]
              all_goals exact ihn (n + 1) hng (by show zs.length - (n + 1) < zs.length - n; omega)
  | some e0 =>
    have hlt := (List.getElem?_eq_some_iff.1 hx).1
    have gi := getEc hx
    rw [show ((l.length - 1 : Nat) : Int) = (l.length : Int) - 1 by omega] at gi
    have pe0 := pure_R e0.p
    have qe0 := pure_R e0.q
    by_cases hev : e0.v = v
    case pos =>
      cases i
      all_goals refine PTriple.of_body (C := cx) Tryd.func6 rfl (by kernel_rfl) mixed fun E hE => ?_
      repeat' (conv => whnf); first
       | (refine bcase_of (fun hr => ?_) (fun hr => ?_) <;> (try simp only [decide_eq_true_eq, decide_eq_false_iff_not, beq_iff_eq, beq_eq_false_iff_ne, ne_eq, bne_iff_ne, bne_eq_false_iff_eq, Bool.not_eq_true, ge_iff_le, gt_iff_lt] at hr) <;> try (exfalso; first | omega | exact hr rfl | (simp at hr; done) | (simp at hr; omega)))
       | (apply And.intro; · first | exact Nat.le_of_ble_eq_true rfl | (show indep _ _ = true; kernel_rfl) | decide | exact ⟨by decide, by decide⟩ | exact ⟨Nat.le_of_ble_eq_true rfl, allOne_of rfl⟩ | exact allOne_of rfl | exact ⟨by omega, by omega⟩ | exact ⟨by omega, by rw [lL]; omega⟩ | exact ⟨by omega, by rw [lenV]; omega⟩ | exact pL | exact pY | exact pcp | exact pcq | exact pe0 | exact qe0 | (rw [lL, hw0]; exact ⟨by omega, by omega⟩) | (rw [hw0]; exact ⟨by omega, by rw [lL]; omega⟩))
       | (apply Exists.intro; apply And.intro; · first | exact rfl | exact c1 | exact wakes_ok | exact gi)
       | rw [lL]
       | rw [hw0]
       | fail
      all_goals (conv => whnf)
      all_goals first | rfl | (exfalso; omega)
    case neg =>
    have hown := own_lt hgl hle (fun e he => by rw [hx] at he; cases he; exact hev)
    cases hp : putA m keep l v c i f with
    | none =>
      rw [hp] at c2
      cases i
      all_goals refine PTriple.of_body (C := cx) Tryd.func6 rfl (by kernel_rfl) mixed fun E hE => ?_
      repeat' (conv => whnf); first
       | (refine bcase_of (fun hr => ?_) (fun hr => ?_) <;> (try simp only [decide_eq_true_eq, decide_eq_false_iff_not, beq_iff_eq, beq_eq_false_iff_ne, ne_eq, bne_iff_ne, bne_eq_false_iff_eq, Bool.not_eq_true, ge_iff_le, gt_iff_lt] at hr) <;> try (exfalso; first | omega | exact hr rfl | (simp at hr; done) | (simp at hr; omega)))
       | (apply And.intro; · first | exact Nat.le_of_ble_eq_true rfl | (show indep _ _ = true; kernel_rfl) | decide | exact ⟨by decide, by decide⟩ | exact ⟨Nat.le_of_ble_eq_true rfl, allOne_of rfl⟩ | exact allOne_of rfl | exact ⟨by omega, by omega⟩ | exact ⟨by omega, by rw [lL]; omega⟩ | exact ⟨by omega, by rw [lenV]; omega⟩ | exact pL | exact pY | exact pcp | exact pcq | exact pe0 | exact qe0 | (rw [lL, hw0]; exact ⟨by omega, by omega⟩) | (rw [hw0]; exact ⟨by omega, by rw [lL]; omega⟩) | exact pure_E [])
       | (apply Exists.intro; apply And.intro; · first | exact rfl | exact c1 | exact c2 | exact wakes_ok | exact gi)
       | rw [lL]
       | rw [hw0]
       | fail
      all_goals (conv => whnf)
      all_goals first | rfl | (exfalso; omega)
    | some k =>
      rw [hp] at c2
      obtain ⟨hkc, hk9⟩ := put_ch hp hch (by omega) hc
      have pK := pure_E k
      have lK := lenE k
      obtain ⟨u1, u2, u3⟩ := put_undo hp hfv hown
      have hat := fun y hy => at_undo hp hfv hown (y := y) hy
      have c3 := Undo_ok m k v hkc
      have huc := undoS_ch (m := m) hkc v
      have c4 := Undo_ok m (undoS m k v) v huc
      have c5 := Undo_ok m k 0 hkc
      rw [u2] at c4
      rw [u3] at c5
      have c6 := same_self (undoS m k v) huc
      have c7 := same_self k hkc
      have hul : (l.length : Int) ≤ keep → undoS m k v = l := fun h => by
        rcases u1 with e | ⟨_, e⟩
        · exact e
        · omega
      generalize undoS m k v = u at c3 c4 c6 huc hat hul
      clear u1 u2 u3
      have pU := pure_E u
      have lU := lenE u
      cases i
      all_goals refine PTriple.of_body (C := cx) Tryd.func6 rfl (by kernel_rfl) mixed fun E hE => ?_
      repeat' (conv => whnf); first
       | (refine bcase_of (fun hr => ?_) (fun hr => ?_) <;> (try simp only [decide_eq_true_eq, decide_eq_false_iff_not, beq_iff_eq, beq_eq_false_iff_ne, ne_eq, bne_iff_ne, bne_eq_false_iff_eq, Bool.not_eq_true, ge_iff_le, gt_iff_lt] at hr) <;> try (exfalso; first | omega | exact hr rfl | (simp at hr; done) | (simp at hr; omega)))
       | (apply And.intro; · first | exact Nat.le_of_ble_eq_true rfl | (show indep _ _ = true; kernel_rfl) | decide | exact ⟨by decide, by decide⟩ | exact ⟨Nat.le_of_ble_eq_true rfl, allOne_of rfl⟩ | exact allOne_of rfl | exact ⟨by omega, by omega⟩ | exact ⟨by omega, by rw [lL]; omega⟩ | exact ⟨by omega, by rw [lenV]; omega⟩ | exact pL | exact pY | exact pcp | exact pcq | exact pe0 | exact qe0 | (rw [lL, hw0]; exact ⟨by omega, by omega⟩) | (rw [hw0]; exact ⟨by omega, by rw [lL]; omega⟩) | exact pK | exact pU | exact one_V ys | exact ra0 ys hn)
       | (apply Exists.intro; apply And.intro; · first | exact rfl | exact c1 | exact c2 | exact c3 | exact gi)
       | rw [lL]
       | rw [hw0]
       | fail
      all_goals (conv => whnf)
      all_goals refine VLoop.move 8 100 ?_
      all_goals (conv => whnf)
      all_goals refine VLoop.norm [2, 5, 7, 8, 9] [2, 100] ?_
      repeat' (conv => whnf); first
       | (refine bcase_of (fun hr => ?_) (fun hr => ?_) <;> (try simp only [decide_eq_true_eq, decide_eq_false_iff_not, beq_iff_eq, beq_eq_false_iff_ne, ne_eq, bne_iff_ne, bne_eq_false_iff_eq, Bool.not_eq_true, ge_iff_le, gt_iff_lt] at hr) <;> try (exfalso; first | omega | exact hr rfl | (simp at hr; done) | (simp at hr; omega)))
       | (apply And.intro; · first | exact Nat.le_of_ble_eq_true rfl | (show indep _ _ = true; kernel_rfl) | decide | exact ⟨by decide, by decide⟩ | exact ⟨Nat.le_of_ble_eq_true rfl, allOne_of rfl⟩ | exact allOne_of rfl | exact ⟨by omega, by omega⟩ | exact ⟨by omega, by rw [lL]; omega⟩ | exact ⟨by omega, by rw [lenV]; omega⟩ | exact pL | exact pY | exact pcp | exact pcq | exact pe0 | exact qe0 | (rw [lL, hw0]; exact ⟨by omega, by omega⟩) | (rw [hw0]; exact ⟨by omega, by rw [lL]; omega⟩) | exact pK | exact pU | exact one_V ys | exact ra0 ys hn)
       | (apply Exists.intro; apply And.intro; · first | exact rfl)
       | fail
      all_goals (conv => whnf)
      all_goals rw [show 0 + (VR ys).length = (ys ++ vers (l.take 0)).length by simp [lenV, vers], show List.take 0 (List.drop 0 ([] : List (List V))) ++ VR ys = VR (ys ++ vers (l.take 0)) by simp [vers]]
      · skip
        refine VLoop.inv (fun j : Nat => stU0 m keep l v f c false k u (ys ++ vers (l.take j)) j) (fun j => j ≤ l.length) (fun j => l.length - j) 0 (Nat.zero_le _) rfl ?_
        intro j hj ih
        simp only at hj ih
        show VLoop cx E _ (stU0 m keep l v f c false k u (ys ++ vers (l.take j)) j) _
        obtain ⟨xs, hxs⟩ : ∃ xs, xs = ys ++ vers (l.take j) := ⟨_, rfl⟩
        have hxl : xs.length = ys.length + j := by rw [hxs]; simp [vers]; omega
        rw [← hxs]
        have hw : IntKind.i64.wrap ((j : Int) + 1) = ((j + 1 : Nat) : Int) := wrap64 (by omega) (by omega)
        have pX := pure_V xs
        have lX := lenV xs
        have rowZ : List.take (xs.length + (List.take 2 (List.drop 0 [[i64V v], [i64V f]])).length) (List.drop 0 (List.take xs.length (List.drop 0 (VR xs)) ++ List.take 2 (List.drop 0 [[i64V v], [i64V f]]))) = VR (xs ++ [v, f]) := by
          rw [takeV]; simp [VR]; (try rw [List.take_of_length_le (by simp)])
        refine VLoop.unroll hE mixed ?_
        by_cases hgo : j < l.length
        case pos =>
          obtain ⟨e, he⟩ : ∃ e, l[j]? = some e := ⟨_, List.getElem?_eq_getElem hgo⟩
          have gj := getEc he
          have pp := pure_R e.p
          have pq := pure_R e.q
          have ht := vers_take he
          repeat' (conv => whnf); first
           | (refine bcase_of (fun hr => ?_) (fun hr => ?_) <;> (try simp only [decide_eq_true_eq, decide_eq_false_iff_not, beq_iff_eq, beq_eq_false_iff_ne, ne_eq, bne_iff_ne, bne_eq_false_iff_eq, Bool.not_eq_true, ge_iff_le, gt_iff_lt] at hr) <;> try (exfalso; first | omega | exact hr rfl | (simp at hr; done) | (simp at hr; omega)))
           | (apply And.intro; · first | exact Nat.le_of_ble_eq_true rfl | (show indep _ _ = true; kernel_rfl) | decide | exact ⟨by decide, by decide⟩ | exact ⟨Nat.le_of_ble_eq_true rfl, allOne_of rfl⟩ | exact allOne_of rfl | exact ⟨by omega, by omega⟩ | exact ⟨by omega, by rw [lL]; omega⟩ | exact ⟨by omega, by rw [lenV]; omega⟩ | exact pL | exact pK | exact pU | exact pX | exact pcp | exact pcq | exact raV _ _ (by simp; omega) | (rw [takeV]; exact pX))
           | (apply Exists.intro; apply And.intro; · first | exact rfl | exact gj)
           | rw [hw]
           | fail
          all_goals (conv => whnf)
          refine VLoop.norm [2, 5, 7, 8, 9] [2, 100] ?_
          repeat' (conv => whnf); first
           | (refine bcase_of (fun hr => ?_) (fun hr => ?_) <;> (try simp only [decide_eq_true_eq, decide_eq_false_iff_not, beq_iff_eq, beq_eq_false_iff_ne, ne_eq, bne_iff_ne, bne_eq_false_iff_eq, Bool.not_eq_true, ge_iff_le, gt_iff_lt] at hr) <;> try (exfalso; first | omega | exact hr rfl | (simp at hr; done) | (simp at hr; omega)))
           | (apply And.intro; · first | exact Nat.le_of_ble_eq_true rfl | (show indep _ _ = true; kernel_rfl) | decide | exact ⟨by decide, by decide⟩ | exact ⟨Nat.le_of_ble_eq_true rfl, allOne_of rfl⟩ | exact allOne_of rfl | exact ⟨by omega, by omega⟩ | exact ⟨by omega, by rw [lL]; omega⟩ | exact ⟨by omega, by rw [lenV]; omega⟩ | exact pL | exact pK | exact pU | exact pX | exact pcp | exact pcq | (rw [addV]; exact pure_V _))
           | (apply Exists.intro; apply And.intro; · first | exact rfl)
           | fail
          try rw [hw]
          rw [addV, show xs.length + (([[i64V e.v]].drop 0).take 1).length = (xs ++ [e.v]).length by simp]
          have e2 : xs ++ [e.v] = ys ++ vers (l.take (j + 1)) := by rw [ht, hxs, List.append_assoc]
          rw [e2]
          exact ih (j + 1) hgo (by show l.length - (j + 1) < l.length - j; omega)
        case neg =>
          repeat' (conv => whnf); first
           | (refine bcase_of (fun hr => ?_) (fun hr => ?_) <;> (try simp only [decide_eq_true_eq, decide_eq_false_iff_not, beq_iff_eq, beq_eq_false_iff_ne, ne_eq, bne_iff_ne, bne_eq_false_iff_eq, Bool.not_eq_true, ge_iff_le, gt_iff_lt] at hr) <;> try (exfalso; first | omega | exact hr rfl | (simp at hr; done) | (simp at hr; omega)))
           | (apply And.intro; · first | exact Nat.le_of_ble_eq_true rfl | (show indep _ _ = true; kernel_rfl) | decide | exact ⟨by decide, by decide⟩ | exact ⟨Nat.le_of_ble_eq_true rfl, allOne_of rfl⟩ | exact allOne_of rfl | exact ⟨by omega, by omega⟩ | exact ⟨by omega, by rw [lL]; omega⟩ | exact ⟨by omega, by rw [lenV]; omega⟩ | exact pL | exact pK | exact pU | exact pX | exact pcp | exact pcq | exact raV _ _ (by simp; omega) | (rw [takeV]; exact pX))
           | (apply Exists.intro; apply And.intro; · first | exact rfl)
           | fail
          all_goals (conv => whnf)
          refine VLoop.weak [.snapT 8] ?_
          repeat' (conv => whnf); first
           | (refine bcase_of (fun hr => ?_) (fun hr => ?_) <;> (try simp only [decide_eq_true_eq, decide_eq_false_iff_not, beq_iff_eq, beq_eq_false_iff_ne, ne_eq, bne_iff_ne, bne_eq_false_iff_eq, Bool.not_eq_true, ge_iff_le, gt_iff_lt] at hr) <;> try (exfalso; first | omega | exact hr rfl | (simp at hr; done) | (simp at hr; omega)))
           | (apply And.intro; · first | exact Nat.le_of_ble_eq_true rfl | (show indep _ _ = true; kernel_rfl) | decide | exact ⟨by decide, by decide⟩ | exact ⟨Nat.le_of_ble_eq_true rfl, allOne_of rfl⟩ | exact allOne_of rfl | exact ⟨by omega, by omega⟩ | exact ⟨by omega, by rw [lL]; omega⟩ | exact ⟨by omega, by rw [lenV]; omega⟩ | exact ⟨rfl, by simp [lenV]⟩)
           | (apply Exists.intro; apply And.intro; · first | exact rfl)
           | fail
          refine VLoop.norm [2, 5, 7, 8, 10] [2] ?_
          repeat' (conv => whnf); first
           | (refine bcase_of (fun hr => ?_) (fun hr => ?_) <;> (try simp only [decide_eq_true_eq, decide_eq_false_iff_not, beq_iff_eq, beq_eq_false_iff_ne, ne_eq, bne_iff_ne, bne_eq_false_iff_eq, Bool.not_eq_true, ge_iff_le, gt_iff_lt] at hr) <;> try (exfalso; first | omega | exact hr rfl | (simp at hr; done) | (simp at hr; omega)))
           | (apply And.intro; · first | exact Nat.le_of_ble_eq_true rfl | (show indep _ _ = true; kernel_rfl) | decide | exact ⟨by decide, by decide⟩ | exact ⟨Nat.le_of_ble_eq_true rfl, allOne_of rfl⟩ | exact allOne_of rfl | exact ⟨by omega, by omega⟩ | exact ⟨by omega, by rw [lL]; omega⟩ | exact ⟨by omega, by rw [lenV]; omega⟩ | exact pL | exact pK | exact pU | exact pX | exact pcp | exact pcq | (rw [rowZ]; exact pure_V _))
           | (apply Exists.intro; apply And.intro; · first | exact rfl)
           | fail
          all_goals (conv => whnf)
          rw [rowZ]
          clear ih hxs
          obtain ⟨zs, hzs⟩ : ∃ zs, zs = xs ++ [v, f] := ⟨_, rfl⟩
          have hzl : zs.length = xs.length + 2 := by rw [hzs]; simp
          rw [← hzs]
          clear hzs
          have pZ := pure_V zs
          have lZ := lenV zs
          refine VLoop.inv (fun n : Nat => stU2 m keep l v f c false k u zs n) (fun n => n ≤ zs.length) (fun n => zs.length - n) 0 (Nat.zero_le _) rfl ?_
          intro n hn2 ihn
          simp only at hn2 ihn
          show VLoop cx E _ (stU2 m keep l v f c false k u zs n) _
          have hwn : IntKind.i64.wrap ((n : Int) + 1) = ((n + 1 : Nat) : Int) := wrap64 (by omega) (by omega)
          refine VLoop.unroll hE mixed ?_
          by_cases hng : n < zs.length
          case neg =>
            by_cases hlk : (l.length : Int) ≤ keep
            case pos =>
              have c8 := c6
              rw [hul hlk] at c8
              have hu2 := hul hlk
              subst hu2
              repeat' (conv => whnf); first
               | (refine bcase_of (fun hr => ?_) (fun hr => ?_) <;> (try simp only [decide_eq_true_eq, decide_eq_false_iff_not, beq_iff_eq, beq_eq_false_iff_ne, ne_eq, bne_iff_ne, bne_eq_false_iff_eq, Bool.not_eq_true, ge_iff_le, gt_iff_lt] at hr) <;> try (exfalso; first | omega | exact hr rfl | (simp at hr; done) | (simp at hr; omega)))
               | (apply And.intro; · first | exact Nat.le_of_ble_eq_true rfl | (show indep _ _ = true; kernel_rfl) | decide | exact ⟨by decide, by decide⟩ | exact ⟨Nat.le_of_ble_eq_true rfl, allOne_of rfl⟩ | exact allOne_of rfl | exact ⟨by omega, by omega⟩ | exact ⟨by omega, by rw [lL]; omega⟩ | exact ⟨by omega, by rw [lenV]; omega⟩ | exact pL | exact pK | exact pU | exact pZ | exact pcp | exact pcq)
               | (apply Exists.intro; apply And.intro; · first | exact rfl | exact c4 | exact c5 | exact c6 | exact c7 | exact c8 | exact wakes_ok)
               | fail
              all_goals (conv => whnf)
              all_goals first | rfl | (exfalso; omega)
            case neg =>
              repeat' (conv => whnf); first
               | (refine bcase_of (fun hr => ?_) (fun hr => ?_) <;> (try simp only [decide_eq_true_eq, decide_eq_false_iff_not, beq_iff_eq, beq_eq_false_iff_ne, ne_eq, bne_iff_ne, bne_eq_false_iff_eq, Bool.not_eq_true, ge_iff_le, gt_iff_lt] at hr) <;> try (exfalso; first | omega | exact hr rfl | (simp at hr; done) | (simp at hr; omega)))
               | (apply And.intro; · first | exact Nat.le_of_ble_eq_true rfl | (show indep _ _ = true; kernel_rfl) | decide | exact ⟨by decide, by decide⟩ | exact ⟨Nat.le_of_ble_eq_true rfl, allOne_of rfl⟩ | exact allOne_of rfl | exact ⟨by omega, by omega⟩ | exact ⟨by omega, by rw [lL]; omega⟩ | exact ⟨by omega, by rw [lenV]; omega⟩ | exact pL | exact pK | exact pU | exact pZ | exact pcp | exact pcq)
               | (apply Exists.intro; apply And.intro; · first | exact rfl | exact c4 | exact c5 | exact c6 | exact c7 | exact wakes_ok)
               | fail
              all_goals (conv => whnf)
              all_goals first | rfl | (exfalso; omega)
          case pos =>
            obtain ⟨y, hy⟩ : ∃ y, zs[n]? = some y := ⟨_, List.getElem?_eq_getElem hng⟩
            have gy := getV hy
            by_cases hyf : f ≤ y
            case pos =>
              have d1 := alike_ok m u l y huc hch
              rw [alike_of (hat y hyf)] at d1
              repeat' (conv => whnf); first
               | (refine bcase_of (fun hr => ?_) (fun hr => ?_) <;> (try simp only [decide_eq_true_eq, decide_eq_false_iff_not, beq_iff_eq, beq_eq_false_iff_ne, ne_eq, bne_iff_ne, bne_eq_false_iff_eq, Bool.not_eq_true, ge_iff_le, gt_iff_lt] at hr) <;> try (exfalso; first | omega | exact hr rfl | (simp at hr; done) | (simp at hr; omega)))
               | (apply And.intro; · first | exact Nat.le_of_ble_eq_true rfl | (show indep _ _ = true; kernel_rfl) | decide | exact ⟨by decide, by decide⟩ | exact ⟨Nat.le_of_ble_eq_true rfl, allOne_of rfl⟩ | exact allOne_of rfl | exact ⟨by omega, by omega⟩ | exact ⟨by omega, by rw [lL]; omega⟩ | exact ⟨by omega, by rw [lenV]; omega⟩ | exact pL | exact pK | exact pU | exact pZ | exact pcp | exact pcq)
               | (apply Exists.intro; apply And.intro; · first | exact rfl | exact d1 | exact gy)
               | rw [hwn]
               | fail
              all_goals (conv => whnf)
              all_goals refine VLoop.norm [2, 5, 7, 8, 10] [2] ?_
              repeat' (conv => whnf); first
               | (refine bcase_of (fun hr => ?_) (fun hr => ?_) <;> (try simp only [decide_eq_true_eq, decide_eq_false_iff_not, beq_iff_eq, beq_eq_false_iff_ne, ne_eq, bne_iff_ne, bne_eq_false_iff_eq, Bool.not_eq_true, ge_iff_le, gt_iff_lt] at hr) <;> try (exfalso; first | omega | exact hr rfl | (simp at hr; done) | (simp at hr; omega)))
               | (apply And.intro; · first | exact Nat.le_of_ble_eq_true rfl | (show indep _ _ = true; kernel_rfl) | decide | exact ⟨by decide, by decide⟩ | exact ⟨Nat.le_of_ble_eq_true rfl, allOne_of rfl⟩ | exact allOne_of rfl | exact ⟨by omega, by omega⟩ | exact ⟨by omega, by rw [lL]; omega⟩ | exact ⟨by omega, by rw [lenV]; omega⟩ | exact pL | exact pK | exact pU | exact pZ | exact pcp | exact pcq)
               | (apply Exists.intro; apply And.intro; · first | exact rfl)
               | fail
              all_goals try rw [hwn]
              all_goals exact ihn (n + 1) hng (by show zs.length - (n + 1) < zs.length - n; omega)
            case neg =>
              repeat' (conv => whnf); first
               | (refine bcase_of (fun hr => ?_) (fun hr => ?_) <;> (try simp only [decide_eq_true_eq, decide_eq_false_iff_not, beq_iff_eq, beq_eq_false_iff_ne, ne_eq, bne_iff_ne, bne_eq_false_iff_eq, Bool.not_eq_true, ge_iff_le, gt_iff_lt] at hr) <;> try (exfalso; first | omega | exact hr rfl | (simp at hr; done) | (simp at hr; omega)))
               | (apply And.intro; · first | exact Nat.le_of_ble_eq_true rfl | (show indep _ _ = true; kernel_rfl) | decide | exact ⟨by decide, by decide⟩ | exact ⟨Nat.le_of_ble_eq_true rfl, allOne_of rfl⟩ | exact allOne_of rfl | exact ⟨by omega, by omega⟩ | exact ⟨by omega, by rw [lL]; omega⟩ | exact ⟨by omega, by rw [lenV]; omega⟩ | exact pL | exact pK | exact pU | exact pZ | exact pcp | exact pcq)
               | (apply Exists.intro; apply And.intro; · first | exact rfl | exact gy)
               | rw [hwn]
               | fail
              all_goals (conv => whnf)
              all_goals refine VLoop.norm [2, 5, 7, 8, 10] [2] ?_
              repeat' (conv => whnf); first
               | (refine bcase_of (fun hr => ?_) (fun hr => ?_) <;> (try simp only [decide_eq_true_eq, decide_eq_false_iff_not, beq_iff_eq, beq_eq_false_iff_ne, ne_eq, bne_iff_ne, bne_eq_false_iff_eq, Bool.not_eq_true, ge_iff_le, gt_iff_lt] at hr) <;> try (exfalso; first | omega | exact hr rfl | (simp at hr; done) | (simp at hr; omega)))
               | (apply And.intro; · first | exact Nat.le_of_ble_eq_true rfl | (show indep _ _ = true; kernel_rfl) | decide | exact ⟨by decide, by decide⟩ | exact ⟨Nat.le_of_ble_eq_true rfl, allOne_of rfl⟩ | exact allOne_of rfl | exact ⟨by omega, by omega⟩ | exact ⟨by omega, by rw [lL]; omega⟩ | exact ⟨by omega, by rw [lenV]; omega⟩ | exact pL | exact pK | exact pU | exact pZ | exact pcp | exact pcq)
               | (apply Exists.intro; apply And.intro; · first | exact rfl)
               | fail
              all_goals try rw [hwn]
              all_goals exact ihn (n + 1) hng (by show zs.length - (n + 1) < zs.length - n; omega)
      · skip
        refine VLoop.inv (fun j : Nat => stU0 m keep l v f c true k u (ys ++ vers (l.take j)) j) (fun j => j ≤ l.length) (fun j => l.length - j) 0 (Nat.zero_le _) rfl ?_
        intro j hj ih
        simp only at hj ih
        show VLoop cx E _ (stU0 m keep l v f c true k u (ys ++ vers (l.take j)) j) _
        obtain ⟨xs, hxs⟩ : ∃ xs, xs = ys ++ vers (l.take j) := ⟨_, rfl⟩
        have hxl : xs.length = ys.length + j := by rw [hxs]; simp [vers]; omega
        rw [← hxs]
        have hw : IntKind.i64.wrap ((j : Int) + 1) = ((j + 1 : Nat) : Int) := wrap64 (by omega) (by omega)
        have pX := pure_V xs
        have lX := lenV xs
        have rowZ : List.take (xs.length + (List.take 2 (List.drop 0 [[i64V v], [i64V f]])).length) (List.drop 0 (List.take xs.length (List.drop 0 (VR xs)) ++ List.take 2 (List.drop 0 [[i64V v], [i64V f]]))) = VR (xs ++ [v, f]) := by
          rw [takeV]; simp [VR]; (try rw [List.take_of_length_le (by simp)])
        refine VLoop.unroll hE mixed ?_
        by_cases hgo : j < l.length
        case pos =>
          obtain ⟨e, he⟩ : ∃ e, l[j]? = some e := ⟨_, List.getElem?_eq_getElem hgo⟩
          have gj := getEc he
          have pp := pure_R e.p
          have pq := pure_R e.q
          have ht := vers_take he
          repeat' (conv => whnf); first
           | (refine bcase_of (fun hr => ?_) (fun hr => ?_) <;> (try simp only [decide_eq_true_eq, decide_eq_false_iff_not, beq_iff_eq, beq_eq_false_iff_ne, ne_eq, bne_iff_ne, bne_eq_false_iff_eq, Bool.not_eq_true, ge_iff_le, gt_iff_lt] at hr) <;> try (exfalso; first | omega | exact hr rfl | (simp at hr; done) | (simp at hr; omega)))
           | (apply And.intro; · first | exact Nat.le_of_ble_eq_true rfl | (show indep _ _ = true; kernel_rfl) | decide | exact ⟨by decide, by decide⟩ | exact ⟨Nat.le_of_ble_eq_true rfl, allOne_of rfl⟩ | exact allOne_of rfl | exact ⟨by omega, by omega⟩ | exact ⟨by omega, by rw [lL]; omega⟩ | exact ⟨by omega, by rw [lenV]; omega⟩ | exact pL | exact pK | exact pU | exact pX | exact pcp | exact pcq | exact raV _ _ (by simp; omega) | (rw [takeV]; exact pX))
           | (apply Exists.intro; apply And.intro; · first | exact rfl | exact gj)
           | rw [hw]
           | fail
          all_goals (conv => whnf)
          refine VLoop.norm [2, 5, 7, 8, 9] [2, 100] ?_
          repeat' (conv => whnf); first
           | (refine bcase_of (fun hr => ?_) (fun hr => ?_) <;> (try simp only [decide_eq_true_eq, decide_eq_false_iff_not, beq_iff_eq, beq_eq_false_iff_ne, ne_eq, bne_iff_ne, bne_eq_false_iff_eq, Bool.not_eq_true, ge_iff_le, gt_iff_lt] at hr) <;> try (exfalso; first | omega | exact hr rfl | (simp at hr; done) | (simp at hr; omega)))
           | (apply And.intro; · first | exact Nat.le_of_ble_eq_true rfl | (show indep _ _ = true; kernel_rfl) | decide | exact ⟨by decide, by decide⟩ | exact ⟨Nat.le_of_ble_eq_true rfl, allOne_of rfl⟩ | exact allOne_of rfl | exact ⟨by omega, by omega⟩ | exact ⟨by omega, by rw [lL]; omega⟩ | exact ⟨by omega, by rw [lenV]; omega⟩ | exact pL | exact pK | exact pU | exact pX | exact pcp | exact pcq | (rw [addV]; exact pure_V _))
           | (apply Exists.intro; apply And.intro; · first | exact rfl)
           | fail
          try rw [hw]
          rw [addV, show xs.length + (([[i64V e.v]].drop 0).take 1).length = (xs ++ [e.v]).length by simp]
          have e2 : xs ++ [e.v] = ys ++ vers (l.take (j + 1)) := by rw [ht, hxs, List.append_assoc]
          rw [e2]
          exact ih (j + 1) hgo (by show l.length - (j + 1) < l.length - j; omega)
        case neg =>
          repeat' (conv => whnf); first
           | (refine bcase_of (fun hr => ?_) (fun hr => ?_) <;> (try simp only [decide_eq_true_eq, decide_eq_false_iff_not, beq_iff_eq, beq_eq_false_iff_ne, ne_eq, bne_iff_ne, bne_eq_false_iff_eq, Bool.not_eq_true, ge_iff_le, gt_iff_lt] at hr) <;> try (exfalso; first | omega | exact hr rfl | (simp at hr; done) | (simp at hr; omega)))
           | (apply And.intro; · first | exact Nat.le_of_ble_eq_true rfl | (show indep _ _ = true; kernel_rfl) | decide | exact ⟨by decide, by decide⟩ | exact ⟨Nat.le_of_ble_eq_true rfl, allOne_of rfl⟩ | exact allOne_of rfl | exact ⟨by omega, by omega⟩ | exact ⟨by omega, by rw [lL]; omega⟩ | exact ⟨by omega, by rw [lenV]; omega⟩ | exact pL | exact pK | exact pU | exact pX | exact pcp | exact pcq | exact raV _ _ (by simp; omega) | (rw [takeV]; exact pX))
           | (apply Exists.intro; apply And.intro; · first | exact rfl)
           | fail
          all_goals (conv => whnf)
          refine VLoop.weak [.snapT 8] ?_
          repeat' (conv => whnf); first
           | (refine bcase_of (fun hr => ?_) (fun hr => ?_) <;> (try simp only [decide_eq_true_eq, decide_eq_false_iff_not, beq_iff_eq, beq_eq_false_iff_ne, ne_eq, bne_iff_ne, bne_eq_false_iff_eq, Bool.not_eq_true, ge_iff_le, gt_iff_lt] at hr) <;> try (exfalso; first | omega | exact hr rfl | (simp at hr; done) | (simp at hr; omega)))
           | (apply And.intro; · first | exact Nat.le_of_ble_eq_true rfl | (show indep _ _ = true; kernel_rfl) | decide | exact ⟨by decide, by decide⟩ | exact ⟨Nat.le_of_ble_eq_true rfl, allOne_of rfl⟩ | exact allOne_of rfl | exact ⟨by omega, by omega⟩ | exact ⟨by omega, by rw [lL]; omega⟩ | exact ⟨by omega, by rw [lenV]; omega⟩ | exact ⟨rfl, by simp [lenV]⟩)
           | (apply Exists.intro; apply And.intro; · first | exact rfl)
           | fail
          refine VLoop.norm [2, 5, 7, 8, 10] [2] ?_
          repeat' (conv => whnf); first
           | (refine bcase_of (fun hr => ?_) (fun hr => ?_) <;> (try simp only [decide_eq_true_eq, decide_eq_false_iff_not, beq_iff_eq, beq_eq_false_iff_ne, ne_eq, bne_iff_ne, bne_eq_false_iff_eq, Bool.not_eq_true, ge_iff_le, gt_iff_lt] at hr) <;> try (exfalso; first | omega | exact hr rfl | (simp at hr; done) | (simp at hr; omega)))
           | (apply And.intro; · first | exact Nat.le_of_ble_eq_true rfl | (show indep _ _ = true; kernel_rfl) | decide | exact ⟨by decide, by decide⟩ | exact ⟨Nat.le_of_ble_eq_true rfl, allOne_of rfl⟩ | exact allOne_of rfl | exact ⟨by omega, by omega⟩ | exact ⟨by omega, by rw [lL]; omega⟩ | exact ⟨by omega, by rw [lenV]; omega⟩ | exact pL | exact pK | exact pU | exact pX | exact pcp | exact pcq | (rw [rowZ]; exact pure_V _))
           | (apply Exists.intro; apply And.intro; · first | exact rfl)
           | fail
          all_goals (conv => whnf)
          rw [rowZ]
          clear ih hxs
          obtain ⟨zs, hzs⟩ : ∃ zs, zs = xs ++ [v, f] := ⟨_, rfl⟩
          have hzl : zs.length = xs.length + 2 := by rw [hzs]; simp
          rw [← hzs]
          clear hzs
          have pZ := pure_V zs
          have lZ := lenV zs
          refine VLoop.inv (fun n : Nat => stU2 m keep l v f c true k u zs n) (fun n => n ≤ zs.length) (fun n => zs.length - n) 0 (Nat.zero_le _) rfl ?_
          intro n hn2 ihn
          simp only at hn2 ihn
          show VLoop cx E _ (stU2 m keep l v f c true k u zs n) _
          have hwn : IntKind.i64.wrap ((n : Int) + 1) = ((n + 1 : Nat) : Int) := wrap64 (by omega) (by omega)
          refine VLoop.unroll hE mixed ?_
          by_cases hng : n < zs.length
          case neg =>
            by_cases hlk : (l.length : Int) ≤ keep
            case pos =>
              have c8 := c6
              rw [hul hlk] at c8
              have hu2 := hul hlk
              subst hu2
              repeat' (conv => whnf); first
               | (refine bcase_of (fun hr => ?_) (fun hr => ?_) <;> (try simp only [decide_eq_true_eq, decide_eq_false_iff_not, beq_iff_eq, beq_eq_false_iff_ne, ne_eq, bne_iff_ne, bne_eq_false_iff_eq, Bool.not_eq_true, ge_iff_le, gt_iff_lt] at hr) <;> try (exfalso; first | omega | exact hr rfl | (simp at hr; done) | (simp at hr; omega)))
               | (apply And.intro; · first | exact Nat.le_of_ble_eq_true rfl | (show indep _ _ = true; kernel_rfl) | decide | exact ⟨by decide, by decide⟩ | exact ⟨Nat.le_of_ble_eq_true rfl, allOne_of rfl⟩ | exact allOne_of rfl | exact ⟨by omega, by omega⟩ | exact ⟨by omega, by rw [lL]; omega⟩ | exact ⟨by omega, by rw [lenV]; omega⟩ | exact pL | exact pK | exact pU | exact pZ | exact pcp | exact pcq)
               | (apply Exists.intro; apply And.intro; · first | exact rfl | exact c4 | exact c5 | exact c6 | exact c7 | exact c8 | exact wakes_ok)
               | fail
              all_goals (conv => whnf)
              all_goals first | rfl | (exfalso; omega)
            case neg =>
              repeat' (conv => whnf); first
               | (refine bcase_of (fun hr => ?_) (fun hr => ?_) <;> (try simp only [decide_eq_true_eq, decide_eq_false_iff_not, beq_iff_eq, beq_eq_false_iff_ne, ne_eq, bne_iff_ne, bne_eq_false_iff_eq, Bool.not_eq_true, ge_iff_le, gt_iff_lt] at hr) <;> try (exfalso; first | omega | exact hr rfl | (simp at hr; done) | (simp at hr; omega)))
               | (apply And.intro; · first | exact Nat.le_of_ble_eq_true rfl | (show indep _ _ = true; kernel_rfl) | decide | exact ⟨by decide, by decide⟩ | exact ⟨Nat.le_of_ble_eq_true rfl, allOne_of rfl⟩ | exact allOne_of rfl | exact ⟨by omega, by omega⟩ | exact ⟨by omega, by rw [lL]; omega⟩ | exact ⟨by omega, by rw [lenV]; omega⟩ | exact pL | exact pK | exact pU | exact pZ | exact pcp | exact pcq)
               | (apply Exists.intro; apply And.intro; · first | exact rfl | exact c4 | exact c5 | exact c6 | exact c7 | exact wakes_ok)
               | fail
              all_goals (conv => whnf)
              all_goals first | rfl | (exfalso; omega)
          case pos =>
            obtain ⟨y, hy⟩ : ∃ y, zs[n]? = some y := ⟨_, List.getElem?_eq_getElem hng⟩
            have gy := getV hy
            by_cases hyf : f ≤ y
            case pos =>
              have d1 := alike_ok m u l y huc hch
              rw [alike_of (hat y hyf)] at d1
              repeat' (conv => whnf); first
               | (refine bcase_of (fun hr => ?_) (fun hr => ?_) <;> (try simp only [decide_eq_true_eq, decide_eq_false_iff_not, beq_iff_eq, beq_eq_false_iff_ne, ne_eq, bne_iff_ne, bne_eq_false_iff_eq, Bool.not_eq_true, ge_iff_le, gt_iff_lt] at hr) <;> try (exfalso; first | omega | exact hr rfl | (simp at hr; done) | (simp at hr; omega)))
               | (apply And.intro; · first | exact Nat.le_of_ble_eq_true rfl | (show indep _ _ = true; kernel_rfl) | decide | exact ⟨by decide, by decide⟩ | exact ⟨Nat.le_of_ble_eq_true rfl, allOne_of rfl⟩ | exact allOne_of rfl | exact ⟨by omega, by omega⟩ | exact ⟨by omega, by rw [lL]; omega⟩ | exact ⟨by omega, by rw [lenV]; omega⟩ | exact pL | exact pK | exact pU | exact pZ | exact pcp | exact pcq)
               | (apply Exists.intro; apply And.intro; · first | exact rfl | exact d1 | exact gy)
               | rw [hwn]
               | fail
              all_goals (conv => whnf)
              all_goals refine VLoop.norm [2, 5, 7, 8, 10] [2] ?_
              repeat' (conv => whnf); first
               | (refine bcase_of (fun hr => ?_) (fun hr => ?_) <;> (try simp only [decide_eq_true_eq, decide_eq_false_iff_not, beq_iff_eq, beq_eq_false_iff_ne, ne_eq, bne_iff_ne, bne_eq_false_iff_eq, Bool.not_eq_true, ge_iff_le, gt_iff_lt] at hr) <;> try (exfalso; first | omega | exact hr rfl | (simp at hr; done) | (simp at hr; omega)))
               | (apply And.intro; · first | exact Nat.le_of_ble_eq_true rfl | (show indep _ _ = true; kernel_rfl) | decide | exact ⟨by decide, by decide⟩ | exact ⟨Nat.le_of_ble_eq_true rfl, allOne_of rfl⟩ | exact allOne_of rfl | exact ⟨by omega, by omega⟩ | exact ⟨by omega, by rw [lL]; omega⟩ | exact ⟨by omega, by rw [lenV]; omega⟩ | exact pL | exact pK | exact pU | exact pZ | exact pcp | exact pcq)
               | (apply Exists.intro; apply And.intro; · first | exact rfl)
               | fail
              all_goals try rw [hwn]
              all_goals exact ihn (n + 1) hng (by show zs.length - (n + 1) < zs.length - n; omega)
            case neg =>
              repeat' (conv => whnf); first
               | (refine bcase_of (fun hr => ?_) (fun hr => ?_) <;> (try simp only [decide_eq_true_eq, decide_eq_false_iff_not, beq_iff_eq, beq_eq_false_iff_ne, ne_eq, bne_iff_ne, bne_eq_false_iff_eq, Bool.not_eq_true, ge_iff_le, gt_iff_lt] at hr) <;> try (exfalso; first | omega | exact hr rfl | (simp at hr; done) | (simp at hr; omega)))
               | (apply And.intro; · first | exact Nat.le_of_ble_eq_true rfl | (show indep _ _ = true; kernel_rfl) | decide | exact ⟨by decide, by decide⟩ | exact ⟨Nat.le_of_ble_eq_true rfl, allOne_of rfl⟩ | exact allOne_of rfl | exact ⟨by omega, by omega⟩ | exact ⟨by omega, by rw [lL]; omega⟩ | exact ⟨by omega, by rw [lenV]; omega⟩ | exact pL | exact pK | exact pU | exact pZ | exact pcp | exact pcq)
               | (apply Exists.intro; apply And.intro; · first | exact rfl | exact gy)
               | rw [hwn]
               | fail
              all_goals (conv => whnf)
              all_goals refine VLoop.norm [2, 5, 7, 8, 10] [2] ?_
              repeat' (conv => whnf); first
               | (refine bcase_of (fun hr => ?_) (fun hr => ?_) <;> (try simp only [decide_eq_true_eq, decide_eq_false_iff_not, beq_iff_eq, beq_eq_false_iff_ne, ne_eq, bne_iff_ne, bne_eq_false_iff_eq, Bool.not_eq_true, ge_iff_le, gt_iff_lt] at hr) <;> try (exfalso; first | omega | exact hr rfl | (simp at hr; done) | (simp at hr; omega)))
               | (apply And.intro; · first | exact Nat.le_of_ble_eq_true rfl | (show indep _ _ = true; kernel_rfl) | decide | exact ⟨by decide, by decide⟩ | exact ⟨Nat.le_of_ble_eq_true rfl, allOne_of rfl⟩ | exact allOne_of rfl | exact ⟨by omega, by omega⟩ | exact ⟨by omega, by rw [lL]; omega⟩ | exact ⟨by omega, by rw [lenV]; omega⟩ | exact pL | exact pK | exact pU | exact pZ | exact pcp | exact pcq)
               | (apply Exists.intro; apply And.intro; · first | exact rfl)
               | fail
              all_goals try rw [hwn]
              all_goals exact ihn (n + 1) hng (by show zs.length - (n + 1) < zs.length - n; omega)
end Go.Proofs.YtbppemcdphgknaaDoor
