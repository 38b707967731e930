/- G6: merged. -/
import Derived.Test.YtbppemcdphgknaaDoorG5
import Derived.Test.YtbppemcdphgknaaDoorVm30
import Derived.Test.YtbppemcdphgknaaDoorG4
set_option linter.unusedVariables false
set_option linter.unusedSimpArgs false
/- Chapter 13: rows of versions. -/
namespace Go.Proofs.YtbppemcdphgknaaDoor
open Go Go.Vm
set_option maxRecDepth 100000
set_option maxHeartbeats 40000000
set_option linter.unusedSimpArgs false
set_option linter.unusedVariables false
def VR (xs : List Int) : List (List V) := xs.map fun x => [i64V x]
theorem lenV (xs : List Int) : (VR xs).length = xs.length := by simp [VR]
theorem pure_V (xs : List Int) : PureEs (VR xs) := fun e he v hv => by
  obtain ⟨x, _, rfl⟩ := List.mem_map.1 he
  rw [List.mem_singleton.1 hv]
  exact .int _ _
theorem getV {xs : List Int} {i : Nat} {x : Int} (h : xs[i]? = some x) : lget (VR xs) ((i : Int).toNat) = some [i64V x] := by
  rw [lget_eq, Int.toNat_natCast, VR, List.getElem?_map, h]; rfl
theorem takeV (xs : List Int) : ((VR xs).drop 0).take xs.length = VR xs := by rw [List.drop_zero, List.take_of_length_le (by rw [lenV]; exact Nat.le_refl _)]
theorem addV (xs : List Int) (x : Int) : ((VR xs).drop 0).take xs.length ++ ([[i64V x]].drop 0).take 1 = VR (xs ++ [x]) := by rw [takeV]; simp [VR]
theorem raV (xs : List Int) (k : Nat) (h : xs.length + k ≤ 2000000) : 0 + xs.length ≤ (VR xs).length ∧ (false = true → 0 + xs.length = (VR xs).length) ∧ (xs.length + k) * 8 ≤ roomBound ∧ xs.length + k ≤ roomBound := ⟨by simp [lenV], (by intro h; cases h), by unfold roomBound; omega, by unfold roomBound; omega⟩
def vers (l : List En) : List Int := l.map (·.v)
theorem vers_take {l : List En} {i : Nat} {e : En} (h : l[i]? = some e) : vers (l.take (i + 1)) = vers (l.take i) ++ [e.v] := by
  rw [take_get h]; simp [vers]
theorem vers_len (l : List En) : (vers l).length = l.length := by simp [vers]
theorem enOk {l : List En} (h : ChIn l) : ∀ e ∈ l, EnOk e := fun e he => ⟨(h.2 e he).lp, (h.2 e he).lq⟩
theorem undoS_ch {m : Int} {l : List En} (h : ChIn l) (ver : Int) : ChIn (undoS m l ver) := by
  unfold undoS
  repeat' split
  · exact ⟨by simp, fun e he => by cases he⟩
  · exact h
  · exact h.take _
  · exact h
theorem same_self (l : List En) (h : ChIn l) : PTriple Tryd.prog gv 18 [chV l, chV l] (.bool true) := by
  have := same13_ok l l (enOk h) (enOk h) (by have := h.1; omega)
  rwa [decide_eq_true rfl] at this
theorem nils_chain {f : Nat} {v a b : V} {args : List V} (h : PTriple Tryd.prog gv f [a, chV [], b] v) : PTriple Tryd.prog gv f [a, .nils, b] v :=
  h.weak (fun _ _ h => (Nilled.same (Nilled.nils (sz := 7) (Nilled.same .nil))).rel h) (fun _ _ h => h)
end Go.Proofs.YtbppemcdphgknaaDoor
/- Chapter 13: ChainTells. -/
namespace Go.Proofs.YtbppemcdphgknaaDoor
open Go Go.Vm
set_option maxRecDepth 100000
set_option maxHeartbeats 40000000
set_option linter.unusedSimpArgs false
set_option linter.unusedVariables false
def stT0 (m k a b : Int) (l : List En) (xs : List Int) (i : Nat) : St DV := mkSt 123 [(1, chV l), (2, .ref (3, 1) 0), (5, .rsl (36, 1) 1 0 xs.length), (6, i64V i)] [(2, .box [i64V m, i64V k, i64V a, i64V b]), (35, .row 1 (VR xs) false)] []
def stT2 (l : List En) (xs ms : List Int) (j : Nat) : St DV := mkSt 123 [(1, chV l), (5, .lst 1 (VR xs)), (38, .lst 1 (VR ms)), (39, i64V 3), (40, i64V j)] [] []
def stT4 (l : List En) (xs ms : List Int) (j : Nat) (m : Int) (i : Nat) : St DV := mkSt 123 [(1, chV l), (5, .lst 1 (VR xs)), (8, i64V m), (9, i64V i), (38, .lst 1 (VR ms)), (39, i64V 3), (40, i64V j)] [] []
theorem tells_ok (m k a b : Int) (l : List En) (h6 : ∀ e ∈ l, En64 e) : PTriple Tryd.prog gv 3 [.agg [i64V m, i64V k, i64V a, i64V b], chV l] (.bool true) := by
  have pL := pure_E l
  have lL := lenE l
  have c1 := lightL_ok l
  cases h1 : lightL l with
  | false =>
    rw [h1] at c1
    refine PTriple.of_body (C := cx) Tryd.func3 rfl (by kernel_rfl) mixed fun E hE => ?_
    repeat' (conv => whnf); first
     | (refine bcase_of (fun hr => ?_) (fun hr => ?_) <;> (try simp only [decide_eq_true_eq, decide_eq_false_iff_not, beq_iff_eq, beq_eq_false_iff_ne, ne_eq, bne_iff_ne, bne_eq_false_iff_eq, Bool.not_eq_true, ge_iff_le, gt_iff_lt] at hr) <;> try (exfalso; first | omega | exact hr rfl | (simp at hr; done) | (simp at hr; omega)))
     | (apply And.intro; · first | exact Nat.le_of_ble_eq_true rfl | (show indep _ _ = true; kernel_rfl) | decide | exact ⟨by decide, by decide⟩ | exact ⟨Nat.le_of_ble_eq_true rfl, allOne_of rfl⟩ | exact allOne_of rfl | exact ⟨by omega, by omega⟩ | exact ⟨by omega, by rw [lL]; omega⟩ | exact ⟨by omega, by rw [lenV]; omega⟩ | exact pL)
     | (apply Exists.intro; apply And.intro; · first | exact rfl | exact c1 | exact wakes_ok)
     | fail
    all_goals (conv => whnf)
    all_goals rfl
  | true =>
  rw [h1] at c1
  have hch := ch_of_light h1 h6
  have hl20 := (light_len h1).1
  refine PTriple.of_body (C := cx) Tryd.func3 rfl (by kernel_rfl) mixed fun E hE => ?_
  repeat' (conv => whnf); first
   | (refine bcase_of (fun hr => ?_) (fun hr => ?_) <;> (try simp only [decide_eq_true_eq, decide_eq_false_iff_not, beq_iff_eq, beq_eq_false_iff_ne, ne_eq, bne_iff_ne, bne_eq_false_iff_eq, Bool.not_eq_true, ge_iff_le, gt_iff_lt] at hr) <;> try (exfalso; first | omega | exact hr rfl | (simp at hr; done) | (simp at hr; omega)))
   | (apply And.intro; · first | exact Nat.le_of_ble_eq_true rfl | (show indep _ _ = true; kernel_rfl) | decide | exact ⟨by decide, by decide⟩ | exact ⟨Nat.le_of_ble_eq_true rfl, allOne_of rfl⟩ | exact allOne_of rfl | exact ⟨by omega, by omega⟩ | exact ⟨by omega, by rw [lL]; omega⟩ | exact ⟨by omega, by rw [lenV]; omega⟩ | exact pL)
   | (apply Exists.intro; apply And.intro; · first | exact rfl | exact c1)
   | fail
  all_goals (conv => whnf)
  refine VLoop.move 5 35 ?_
  conv => whnf
  refine VLoop.norm [1, 2, 5, 6] [2, 35] ?_
  repeat' (conv => whnf); first
   | (refine bcase_of (fun hr => ?_) (fun hr => ?_) <;> (try simp only [decide_eq_true_eq, decide_eq_false_iff_not, beq_iff_eq, beq_eq_false_iff_ne, ne_eq, bne_iff_ne, bne_eq_false_iff_eq, Bool.not_eq_true, ge_iff_le, gt_iff_lt] at hr) <;> try (exfalso; first | omega | exact hr rfl | (simp at hr; done) | (simp at hr; omega)))
   | (apply And.intro; · first | exact Nat.le_of_ble_eq_true rfl | (show indep _ _ = true; kernel_rfl) | decide | exact ⟨by decide, by decide⟩ | exact ⟨Nat.le_of_ble_eq_true rfl, allOne_of rfl⟩ | exact allOne_of rfl | exact ⟨by omega, by omega⟩ | exact ⟨by omega, by rw [lL]; omega⟩ | exact ⟨by omega, by rw [lenV]; omega⟩ | exact pL | exact pure_V [a, b, 0, 1, 2, 3])
   | (apply Exists.intro; apply And.intro; · first | exact rfl)
   | fail
  refine VLoop.inv (fun i : Nat => stT0 m k a b l ([a, b, 0, 1, 2, 3] ++ vers (l.take i)) i) (fun i => i ≤ l.length) (fun i => l.length - i) 0 (Nat.zero_le _) rfl ?_
  intro i hi ih
  simp only at hi ih
  obtain ⟨xs, hxs⟩ : ∃ xs, xs = [a, b, 0, 1, 2, 3] ++ vers (l.take i) := ⟨_, rfl⟩
  have hxl : xs.length = 6 + i := by rw [hxs]; simp [vers]; omega
  show VLoop cx E _ (stT0 m k a b l ([a, b, 0, 1, 2, 3] ++ vers (l.take i)) i) _
  rw [← hxs]
  have hw : IntKind.i64.wrap ((i : Int) + 1) = ((i + 1 : Nat) : Int) := wrap64 (by omega) (by omega)
  have pX := pure_V xs
  have lX := lenV xs
  refine VLoop.unroll hE mixed ?_
  by_cases hgo : i < l.length
  case pos =>
    obtain ⟨e, he⟩ : ∃ e, l[i]? = some e := ⟨_, List.getElem?_eq_getElem hgo⟩
    have gi := getEc he
    have pp := pure_R e.p
    have pq := pure_R e.q
    have ht := vers_take he
    repeat' (conv => whnf); first
     | (refine bcase_of (fun hr => ?_) (fun hr => ?_) <;> (try simp only [decide_eq_true_eq, decide_eq_false_iff_not, beq_iff_eq, beq_eq_false_iff_ne, ne_eq, bne_iff_ne, bne_eq_false_iff_eq, Bool.not_eq_true, ge_iff_le, gt_iff_lt] at hr) <;> try (exfalso; first | omega | exact hr rfl | (simp at hr; done) | (simp at hr; omega)))
     | (apply And.intro; · first | exact Nat.le_of_ble_eq_true rfl | (show indep _ _ = true; kernel_rfl) | decide | exact ⟨by decide, by decide⟩ | exact ⟨Nat.le_of_ble_eq_true rfl, allOne_of rfl⟩ | exact allOne_of rfl | exact ⟨by omega, by omega⟩ | exact ⟨by omega, by rw [lL]; omega⟩ | exact ⟨by omega, by rw [lenV]; omega⟩ | exact pL | exact raV _ _ (by simp; omega) | (rw [takeV]; exact pX))
     | (apply Exists.intro; apply And.intro; · first | exact rfl | exact gi)
     | rw [hw]
     | fail
    all_goals (conv => whnf)
    refine VLoop.norm [1, 2, 5, 6] [2, 35] ?_
    repeat' (conv => whnf); first
     | (refine bcase_of (fun hr => ?_) (fun hr => ?_) <;> (try simp only [decide_eq_true_eq, decide_eq_false_iff_not, beq_iff_eq, beq_eq_false_iff_ne, ne_eq, bne_iff_ne, bne_eq_false_iff_eq, Bool.not_eq_true, ge_iff_le, gt_iff_lt] at hr) <;> try (exfalso; first | omega | exact hr rfl | (simp at hr; done) | (simp at hr; omega)))
     | (apply And.intro; · first | exact Nat.le_of_ble_eq_true rfl | (show indep _ _ = true; kernel_rfl) | decide | exact ⟨by decide, by decide⟩ | exact ⟨Nat.le_of_ble_eq_true rfl, allOne_of rfl⟩ | exact allOne_of rfl | exact ⟨by omega, by omega⟩ | exact ⟨by omega, by rw [lL]; omega⟩ | exact ⟨by omega, by rw [lenV]; omega⟩ | exact pL | (rw [addV]; exact pure_V _))
     | (apply Exists.intro; apply And.intro; · first | exact rfl)
     | fail
    try rw [hw]
    rw [addV, show xs.length + (([[i64V e.v]].drop 0).take 1).length = (xs ++ [e.v]).length by simp]
    have e2 : xs ++ [e.v] = [a, b, 0, 1, 2, 3] ++ vers (l.take (i + 1)) := by rw [ht, hxs, List.append_assoc]
    rw [e2]
    exact ih (i + 1) hgo (by show l.length - (i + 1) < l.length - i; omega)
  case neg =>
    repeat' (conv => whnf); first
     | (refine bcase_of (fun hr => ?_) (fun hr => ?_) <;> (try simp only [decide_eq_true_eq, decide_eq_false_iff_not, beq_iff_eq, beq_eq_false_iff_ne, ne_eq, bne_iff_ne, bne_eq_false_iff_eq, Bool.not_eq_true, ge_iff_le, gt_iff_lt] at hr) <;> try (exfalso; first | omega | exact hr rfl | (simp at hr; done) | (simp at hr; omega)))
     | (apply And.intro; · first | exact Nat.le_of_ble_eq_true rfl | (show indep _ _ = true; kernel_rfl) | decide | exact ⟨by decide, by decide⟩ | exact ⟨Nat.le_of_ble_eq_true rfl, allOne_of rfl⟩ | exact allOne_of rfl | exact ⟨by omega, by omega⟩ | exact ⟨by omega, by rw [lL]; omega⟩ | exact ⟨by omega, by rw [lenV]; omega⟩ | exact pL)
     | (apply Exists.intro; apply And.intro; · first | exact rfl)
     | fail
    all_goals (conv => whnf)
    refine VLoop.weak [.snapT 5, .snapT 38] ?_
    repeat' (conv => whnf); first
     | (refine bcase_of (fun hr => ?_) (fun hr => ?_) <;> (try simp only [decide_eq_true_eq, decide_eq_false_iff_not, beq_iff_eq, beq_eq_false_iff_ne, ne_eq, bne_iff_ne, bne_eq_false_iff_eq, Bool.not_eq_true, ge_iff_le, gt_iff_lt] at hr) <;> try (exfalso; first | omega | exact hr rfl | (simp at hr; done) | (simp at hr; omega)))
     | (apply And.intro; · first | exact Nat.le_of_ble_eq_true rfl | (show indep _ _ = true; kernel_rfl) | decide | exact ⟨by decide, by decide⟩ | exact ⟨Nat.le_of_ble_eq_true rfl, allOne_of rfl⟩ | exact allOne_of rfl | exact ⟨by omega, by omega⟩ | exact ⟨by omega, by rw [lL]; omega⟩ | exact ⟨by omega, by rw [lenV]; omega⟩ | exact ⟨rfl, by simp [lenV]⟩ | exact ⟨rfl, Nat.le_of_ble_eq_true rfl⟩)
     | (apply Exists.intro; apply And.intro; · first | exact rfl)
     | fail
    refine VLoop.norm [1, 5, 38, 39, 40] [] ?_
    repeat' (conv => whnf); first
     | (refine bcase_of (fun hr => ?_) (fun hr => ?_) <;> (try simp only [decide_eq_true_eq, decide_eq_false_iff_not, beq_iff_eq, beq_eq_false_iff_ne, ne_eq, bne_iff_ne, bne_eq_false_iff_eq, Bool.not_eq_true, ge_iff_le, gt_iff_lt] at hr) <;> try (exfalso; first | omega | exact hr rfl | (simp at hr; done) | (simp at hr; omega)))
     | (apply And.intro; · first | exact Nat.le_of_ble_eq_true rfl | (show indep _ _ = true; kernel_rfl) | decide | exact ⟨by decide, by decide⟩ | exact ⟨Nat.le_of_ble_eq_true rfl, allOne_of rfl⟩ | exact allOne_of rfl | exact ⟨by omega, by omega⟩ | exact ⟨by omega, by rw [lL]; omega⟩ | exact ⟨by omega, by rw [lenV]; omega⟩ | exact pL | exact pX | (rw [takeV]; exact pX) | exact pure_V [m, 1, 2])
     | (apply Exists.intro; apply And.intro; · first | exact rfl)
     | fail
    rw [takeV]
    clear ih hxs
    refine VLoop.inv (fun j : Nat => stT2 l xs [m, 1, 2] j) (fun j => j ≤ 3) (fun j => 3 - j) 0 (Nat.zero_le _) rfl ?_
    intro j hj ihj
    simp only at hj ihj
    show VLoop cx E _ (stT2 l xs [m, 1, 2] j) _
    have hwj : IntKind.i64.wrap ((j : Int) + 1) = ((j + 1 : Nat) : Int) := wrap64 (by omega) (by omega)
    have pM := pure_V [m, 1, 2]
    refine VLoop.unroll hE mixed ?_
    by_cases hjg : j < 3
    case neg =>
      repeat' (conv => whnf); first
       | (refine bcase_of (fun hr => ?_) (fun hr => ?_) <;> (try simp only [decide_eq_true_eq, decide_eq_false_iff_not, beq_iff_eq, beq_eq_false_iff_ne, ne_eq, bne_iff_ne, bne_eq_false_iff_eq, Bool.not_eq_true, ge_iff_le, gt_iff_lt] at hr) <;> try (exfalso; first | omega | exact hr rfl | (simp at hr; done) | (simp at hr; omega)))
       | (apply And.intro; · first | exact Nat.le_of_ble_eq_true rfl | (show indep _ _ = true; kernel_rfl) | decide | exact ⟨by decide, by decide⟩ | exact ⟨Nat.le_of_ble_eq_true rfl, allOne_of rfl⟩ | exact allOne_of rfl | exact ⟨by omega, by omega⟩ | exact ⟨by omega, by rw [lL]; omega⟩ | exact ⟨by omega, by rw [lenV]; omega⟩ | exact pL | exact pX | exact pM)
       | (apply Exists.intro; apply And.intro; · first | exact rfl | exact wakes_ok)
       | fail
      all_goals (conv => whnf)
      all_goals rfl
    case pos =>
      obtain ⟨q, hq⟩ : ∃ q, [m, 1, 2][j]? = some q := ⟨_, List.getElem?_eq_getElem (by simpa using hjg)⟩
      have gq := getV hq
      have c2 := goodL_ok q l (by omega) hch.2
      have c3 := goodL13_ok q l (by omega) hch.2
      generalize goodL q l = G at c2 c3
      cases G
      all_goals skip
      repeat' (conv => whnf); first
       | (refine bcase_of (fun hr => ?_) (fun hr => ?_) <;> (try simp only [decide_eq_true_eq, decide_eq_false_iff_not, beq_iff_eq, beq_eq_false_iff_ne, ne_eq, bne_iff_ne, bne_eq_false_iff_eq, Bool.not_eq_true, ge_iff_le, gt_iff_lt] at hr) <;> try (exfalso; first | omega | exact hr rfl | (simp at hr; done) | (simp at hr; omega)))
       | (apply And.intro; · first | exact Nat.le_of_ble_eq_true rfl | (show indep _ _ = true; kernel_rfl) | decide | exact ⟨by decide, by decide⟩ | exact ⟨Nat.le_of_ble_eq_true rfl, allOne_of rfl⟩ | exact allOne_of rfl | exact ⟨by omega, by omega⟩ | exact ⟨by omega, by rw [lL]; omega⟩ | exact ⟨by omega, by rw [lenV]; omega⟩ | exact pL | exact pX | exact pM | exact ⟨by omega, by simp [lenV]; omega⟩)
       | (apply Exists.intro; apply And.intro; · first | exact rfl | exact c2 | exact c3 | exact gq)
       | fail
      all_goals (conv => whnf)
      all_goals refine VLoop.norm [1, 5, 8, 9, 38, 39, 40] [] ?_
      repeat' (conv => whnf); first
       | (refine bcase_of (fun hr => ?_) (fun hr => ?_) <;> (try simp only [decide_eq_true_eq, decide_eq_false_iff_not, beq_iff_eq, beq_eq_false_iff_ne, ne_eq, bne_iff_ne, bne_eq_false_iff_eq, Bool.not_eq_true, ge_iff_le, gt_iff_lt] at hr) <;> try (exfalso; first | omega | exact hr rfl | (simp at hr; done) | (simp at hr; omega)))
       | (apply And.intro; · first | exact Nat.le_of_ble_eq_true rfl | (show indep _ _ = true; kernel_rfl) | decide | exact ⟨by decide, by decide⟩ | exact ⟨Nat.le_of_ble_eq_true rfl, allOne_of rfl⟩ | exact allOne_of rfl | exact ⟨by omega, by omega⟩ | exact ⟨by omega, by rw [lL]; omega⟩ | exact ⟨by omega, by rw [lenV]; omega⟩ | exact pL | exact pX | exact pM)
       | (apply Exists.intro; apply And.intro; · first | exact rfl)
       | fail
      all_goals refine VLoop.inv (fun n : Nat => stT4 l xs [m, 1, 2] j q n) (fun n => n ≤ xs.length) (fun n => xs.length - n) 0 (Nat.zero_le _) rfl ?_
      all_goals
        intro n hn ihn
        simp only at hn ihn
        show VLoop cx E _ (stT4 l xs [m, 1, 2] j q n) _
        have hwn : IntKind.i64.wrap ((n : Int) + 1) = ((n + 1 : Nat) : Int) := wrap64 (by omega) (by omega)
        refine VLoop.unroll hE mixed ?_
        by_cases hng : n < xs.length
        case neg =>
          repeat' (conv => whnf); first
           | (refine bcase_of (fun hr => ?_) (fun hr => ?_) <;> (try simp only [decide_eq_true_eq, decide_eq_false_iff_not, beq_iff_eq, beq_eq_false_iff_ne, ne_eq, bne_iff_ne, bne_eq_false_iff_eq, Bool.not_eq_true, ge_iff_le, gt_iff_lt] at hr) <;> try (exfalso; first | omega | exact hr rfl | (simp at hr; done) | (simp at hr; omega)))
           | (apply And.intro; · first | exact Nat.le_of_ble_eq_true rfl | (show indep _ _ = true; kernel_rfl) | decide | exact ⟨by decide, by decide⟩ | exact ⟨Nat.le_of_ble_eq_true rfl, allOne_of rfl⟩ | exact allOne_of rfl | exact ⟨by omega, by omega⟩ | exact ⟨by omega, by rw [lL]; omega⟩ | exact ⟨by omega, by rw [lenV]; omega⟩ | exact pL | exact pX | exact pM)
           | (apply Exists.intro; apply And.intro; · first | exact rfl)
           | rw [hwj]
           | fail
          all_goals (conv => whnf)
          all_goals refine VLoop.norm [1, 5, 38, 39, 40] [] ?_
          repeat' (conv => whnf); first
           | (refine bcase_of (fun hr => ?_) (fun hr => ?_) <;> (try simp only [decide_eq_true_eq, decide_eq_false_iff_not, beq_iff_eq, beq_eq_false_iff_ne, ne_eq, bne_iff_ne, bne_eq_false_iff_eq, Bool.not_eq_true, ge_iff_le, gt_iff_lt] at hr) <;> try (exfalso; first | omega | exact hr rfl | (simp at hr; done) | (simp at hr; omega)))
           | (apply And.intro; · first | exact Nat.le_of_ble_eq_true rfl | (show indep _ _ = true; kernel_rfl) | decide | exact ⟨by decide, by decide⟩ | exact ⟨Nat.le_of_ble_eq_true rfl, allOne_of rfl⟩ | exact allOne_of rfl | exact ⟨by omega, by omega⟩ | exact ⟨by omega, by rw [lL]; omega⟩ | exact ⟨by omega, by rw [lenV]; omega⟩ | exact pL | exact pX | exact pM)
           | (apply Exists.intro; apply And.intro; · first | exact rfl)
           | fail
          all_goals try rw [hwj]
          all_goals exact ihj (j + 1) hjg (by show 3 - (j + 1) < 3 - j; omega)
        case pos =>
          obtain ⟨y, hy⟩ : ∃ y, xs[n]? = some y := ⟨_, List.getElem?_eq_getElem hng⟩
          have gy := getV hy
          have d1 := At_ok q l y hch
          have d2 := At13_ok q l y hch
          have d3 := Undo_ok q l y hch
          have d4 := Undo13_ok q l y hch
          have d5 := same_self (undoS q l y) (undoS_ch hch y)
          have d6 := Prune_ok q l y hch
          have d7 := Prune13_ok q l y hch
          have d8 := same_self (pruneS q l y) (pruneS_ch hch y)
          have pU := pure_E (undoS q l y)
          have pP := pure_E (pruneS q l y)
          generalize undoS q l y = U at d3 d4 d5 pU
          generalize pruneS q l y = W at d6 d7 d8 pP
          cases hat : atS q l y with
          | none =>
            rw [hat] at d1 d2
            have d0 := (same9_ok 0 0 0 0 0 0 [] [] [] [] (by decide) (by decide) (by decide) (by decide)).zarg (args' := [cellV 0 0 0 [] [], zV]) (.same (.zero .nil))
            rw [decide_eq_true (by simp)] at d0
            repeat' (conv => whnf); first
             | (refine bcase_of (fun hr => ?_) (fun hr => ?_) <;> (try simp only [decide_eq_true_eq, decide_eq_false_iff_not, beq_iff_eq, beq_eq_false_iff_ne, ne_eq, bne_iff_ne, bne_eq_false_iff_eq, Bool.not_eq_true, ge_iff_le, gt_iff_lt] at hr) <;> try (exfalso; first | omega | exact hr rfl | (simp at hr; done) | (simp at hr; omega)))
             | (apply And.intro; · first | exact Nat.le_of_ble_eq_true rfl | (show indep _ _ = true; kernel_rfl) | decide | exact ⟨by decide, by decide⟩ | exact ⟨Nat.le_of_ble_eq_true rfl, allOne_of rfl⟩ | exact allOne_of rfl | exact ⟨by omega, by omega⟩ | exact ⟨by omega, by rw [lL]; omega⟩ | exact ⟨by omega, by rw [lenV]; omega⟩ | exact pL | exact pX | exact pM | exact pU | exact pP | exact pure_R [])
             | (apply Exists.intro; apply And.intro; · first | exact rfl | exact d0 | exact d1 | exact d2 | exact d3 | exact d4 | exact d5 | exact d6 | exact d7 | exact d8 | exact gy)
             | rw [hwn]
             | fail
            all_goals (conv => whnf)
            all_goals refine VLoop.norm [1, 5, 8, 9, 38, 39, 40] [] ?_
            repeat' (conv => whnf); first
             | (refine bcase_of (fun hr => ?_) (fun hr => ?_) <;> (try simp only [decide_eq_true_eq, decide_eq_false_iff_not, beq_iff_eq, beq_eq_false_iff_ne, ne_eq, bne_iff_ne, bne_eq_false_iff_eq, Bool.not_eq_true, ge_iff_le, gt_iff_lt] at hr) <;> try (exfalso; first | omega | exact hr rfl | (simp at hr; done) | (simp at hr; omega)))
             | (apply And.intro; · first | exact Nat.le_of_ble_eq_true rfl | (show indep _ _ = true; kernel_rfl) | decide | exact ⟨by decide, by decide⟩ | exact ⟨Nat.le_of_ble_eq_true rfl, allOne_of rfl⟩ | exact allOne_of rfl | exact ⟨by omega, by omega⟩ | exact ⟨by omega, by rw [lL]; omega⟩ | exact ⟨by omega, by rw [lenV]; omega⟩ | exact pL | exact pX | exact pM)
             | (apply Exists.intro; apply And.intro; · first | exact rfl)
             | fail
            all_goals try rw [hwn]
            all_goals exact ihn (n + 1) hng (by show xs.length - (n + 1) < xs.length - n; omega)
          | some e =>
            rw [hat] at d1 d2
            have he := at_in hch hat
            have pp := pure_R e.p
            have pq := pure_R e.q
            have d0 := same9_ok e.n e.a e.b e.n e.a e.b e.p e.q e.p e.q he.lp he.lq he.lp he.lq
            rw [decide_eq_true (by simp)] at d0
            repeat' (conv => whnf); first
             | (refine bcase_of (fun hr => ?_) (fun hr => ?_) <;> (try simp only [decide_eq_true_eq, decide_eq_false_iff_not, beq_iff_eq, beq_eq_false_iff_ne, ne_eq, bne_iff_ne, bne_eq_false_iff_eq, Bool.not_eq_true, ge_iff_le, gt_iff_lt] at hr) <;> try (exfalso; first | omega | exact hr rfl | (simp at hr; done) | (simp at hr; omega)))
             | (apply And.intro; · first | exact Nat.le_of_ble_eq_true rfl | (show indep _ _ = true; kernel_rfl) | decide | exact ⟨by decide, by decide⟩ | exact ⟨Nat.le_of_ble_eq_true rfl, allOne_of rfl⟩ | exact allOne_of rfl | exact ⟨by omega, by omega⟩ | exact ⟨by omega, by rw [lL]; omega⟩ | exact ⟨by omega, by rw [lenV]; omega⟩ | exact pL | exact pX | exact pM | exact pU | exact pP | exact pp | exact pq)
             | (apply Exists.intro; apply And.intro; · first | exact rfl | exact d0 | exact d1 | exact d2 | exact d3 | exact d4 | exact d5 | exact d6 | exact d7 | exact d8 | exact gy)
             | rw [hwn]
             | fail
            all_goals (conv => whnf)
            all_goals refine VLoop.norm [1, 5, 8, 9, 38, 39, 40] [] ?_
            repeat' (conv => whnf); first
             | (refine bcase_of (fun hr => ?_) (fun hr => ?_) <;> (try simp only [decide_eq_true_eq, decide_eq_false_iff_not, beq_iff_eq, beq_eq_false_iff_ne, ne_eq, bne_iff_ne, bne_eq_false_iff_eq, Bool.not_eq_true, ge_iff_le, gt_iff_lt] at hr) <;> try (exfalso; first | omega | exact hr rfl | (simp at hr; done) | (simp at hr; omega)))
             | (apply And.intro; · first | exact Nat.le_of_ble_eq_true rfl | (show indep _ _ = true; kernel_rfl) | decide | exact ⟨by decide, by decide⟩ | exact ⟨Nat.le_of_ble_eq_true rfl, allOne_of rfl⟩ | exact allOne_of rfl | exact ⟨by omega, by omega⟩ | exact ⟨by omega, by rw [lL]; omega⟩ | exact ⟨by omega, by rw [lenV]; omega⟩ | exact pL | exact pX | exact pM)
             | (apply Exists.intro; apply And.intro; · first | exact rfl)
             | fail
            all_goals try rw [hwn]
            all_goals exact ihn (n + 1) hng (by show xs.length - (n + 1) < xs.length - n; omega)
end Go.Proofs.YtbppemcdphgknaaDoor
/- Chapter 13: changes. -/
namespace Go.Proofs.YtbppemcdphgknaaDoor
open Go Go.Vm
set_option maxRecDepth 100000
set_option maxHeartbeats 40000000
set_option linter.unusedSimpArgs false
set_option linter.unusedVariables false
theorem put_ch {m keep : Int} {l : List En} {ver : Int} {c : En} {i : Bool} {floor : Int} {l' : List En} (h : putA m keep l ver c i floor = some l') (hl : ChIn l) (h8 : l.length ≤ 800) (hc : EnIn c) : ChIn l' ∧ l'.length ≤ 9 := by
  obtain ⟨h1, rfl, h3⟩ := putA_some h
  obtain ⟨_, _, g3, _⟩ := okP_iff.1 h1
  have hS := putS_ch hl h8 hc ver i
  refine ⟨?_, by omega⟩
  unfold afterP
  split
  · exact pruneS_ch hS floor
  · exact hS
/-- A change: in which version, with which floor, the cell, is it there. -/
structure Chg where
  v : Int
  f : Int
  c : En
  i : Bool
def encC (x : Chg) : List V := [i64V x.v, i64V x.f, i64V x.c.n, i64V x.c.a, i64V x.c.b, bagV x.c.p, bagV x.c.q, .bool x.i]
theorem pure_C (l : List Chg) : PureEs (l.map encC) := fun e he v hv => by
  obtain ⟨x, _, rfl⟩ := List.mem_map.1 he
  simp only [encC, List.mem_cons, List.not_mem_nil, or_false] at hv
  rcases hv with rfl | rfl | rfl | rfl | rfl | rfl | rfl | rfl
  all_goals first | exact .int _ _ | exact .bool _ | exact .lst (pure_R _)
theorem lenC (l : List Chg) : (l.map encC).length = l.length := by simp
theorem getC {l : List Chg} {i : Nat} {x : Chg} (h : l[i]? = some x) : lget (l.map encC) ((i : Int).toNat) = some [i64V x.v, i64V x.f, i64V x.c.n, i64V x.c.a, i64V x.c.b, bagV x.c.p, bagV x.c.q, .bool x.i] := by
  rw [lget_eq, Int.toNat_natCast, List.getElem?_map, h]; rfl
end Go.Proofs.YtbppemcdphgknaaDoor
/- Chapter 13: ChainPuts. -/
namespace Go.Proofs.YtbppemcdphgknaaDoor
open Go Go.Vm
set_option maxRecDepth 100000
set_option maxHeartbeats 40000000
set_option linter.unusedSimpArgs false
set_option linter.unusedVariables false
def stPu (m k a b : Int) (cs : List Chg) (l : List En) (i : Nat) : St DV := mkSt 93 [(2, .lst 8 (cs.map encC)), (3, .ref (4, 1) 0), (7, chV l), (8, i64V i)] [(3, .box [i64V m, i64V k, i64V a, i64V b])] []
theorem puts_ok (m k a b : Int) (l : List En) (cs : List Chg) (h6 : ∀ e ∈ l, En64 e) (hc6 : ∀ x ∈ cs, En64 x.c) : PTriple Tryd.prog gv 4 [.agg [i64V m, i64V k, i64V a, i64V b], chV l, .lst 8 (cs.map encC)] (.bool true) := by
  have pL := pure_E l
  have lL := lenE l
  have pC := pure_C cs
  have lC := lenC cs
  have c1 := lightL_ok l
  cases h1 : lightL l with
  | false =>
    rw [h1] at c1
    refine PTriple.of_body (C := cx) Tryd.func4 rfl (by kernel_rfl) mixed fun E hE => ?_
    repeat' (conv => whnf); first
     | (refine bcase_of (fun hr => ?_) (fun hr => ?_) <;> (try simp only [decide_eq_true_eq, decide_eq_false_iff_not, beq_iff_eq, beq_eq_false_iff_ne, ne_eq, bne_iff_ne, bne_eq_false_iff_eq, Bool.not_eq_true, ge_iff_le, gt_iff_lt] at hr) <;> try (exfalso; first | omega | exact hr rfl | (simp at hr; done) | (simp at hr; omega)))
     | (apply And.intro; · first | exact Nat.le_of_ble_eq_true rfl | (show indep _ _ = true; kernel_rfl) | decide | exact ⟨by decide, by decide⟩ | exact ⟨Nat.le_of_ble_eq_true rfl, allOne_of rfl⟩ | exact allOne_of rfl | exact ⟨by omega, by omega⟩ | exact ⟨by omega, by rw [lL]; omega⟩ | exact ⟨by omega, by rw [lenV]; omega⟩ | exact pL | exact pC)
     | (apply Exists.intro; apply And.intro; · first | exact rfl | exact c1 | exact wakes_ok)
     | fail
    all_goals (conv => whnf)
    all_goals rfl
  | true =>
  rw [h1] at c1
  have hch := ch_of_light h1 h6
  have hl20 := (light_len h1).1
  by_cases hn : cs.length ≤ 24
  case neg =>
    refine PTriple.of_body (C := cx) Tryd.func4 rfl (by kernel_rfl) mixed fun E hE => ?_
    repeat' (conv => whnf); first
     | (refine bcase_of (fun hr => ?_) (fun hr => ?_) <;> (try simp only [decide_eq_true_eq, decide_eq_false_iff_not, beq_iff_eq, beq_eq_false_iff_ne, ne_eq, bne_iff_ne, bne_eq_false_iff_eq, Bool.not_eq_true, ge_iff_le, gt_iff_lt] at hr) <;> try (exfalso; first | omega | exact hr rfl | (simp at hr; done) | (simp at hr; omega)))
     | (apply And.intro; · first | exact Nat.le_of_ble_eq_true rfl | (show indep _ _ = true; kernel_rfl) | decide | exact ⟨by decide, by decide⟩ | exact ⟨Nat.le_of_ble_eq_true rfl, allOne_of rfl⟩ | exact allOne_of rfl | exact ⟨by omega, by omega⟩ | exact ⟨by omega, by rw [lL]; omega⟩ | exact ⟨by omega, by rw [lenV]; omega⟩ | exact pL | exact pC)
     | (apply Exists.intro; apply And.intro; · first | exact rfl | exact c1 | exact wakes_ok)
     | fail
    all_goals (conv => whnf)
    all_goals rfl
  case pos =>
  refine PTriple.of_body (C := cx) Tryd.func4 rfl (by kernel_rfl) mixed fun E hE => ?_
  repeat' (conv => whnf); first
   | (refine bcase_of (fun hr => ?_) (fun hr => ?_) <;> (try simp only [decide_eq_true_eq, decide_eq_false_iff_not, beq_iff_eq, beq_eq_false_iff_ne, ne_eq, bne_iff_ne, bne_eq_false_iff_eq, Bool.not_eq_true, ge_iff_le, gt_iff_lt] at hr) <;> try (exfalso; first | omega | exact hr rfl | (simp at hr; done) | (simp at hr; omega)))
   | (apply And.intro; · first | exact Nat.le_of_ble_eq_true rfl | (show indep _ _ = true; kernel_rfl) | decide | exact ⟨by decide, by decide⟩ | exact ⟨Nat.le_of_ble_eq_true rfl, allOne_of rfl⟩ | exact allOne_of rfl | exact ⟨by omega, by omega⟩ | exact ⟨by omega, by rw [lL]; omega⟩ | exact ⟨by omega, by rw [lenV]; omega⟩ | exact pL | exact pC)
   | (apply Exists.intro; apply And.intro; · first | exact rfl | exact c1)
   | fail
  all_goals (conv => whnf)
  refine VLoop.norm [2, 3, 7, 8] [3] ?_
  repeat' (conv => whnf); first
   | (refine bcase_of (fun hr => ?_) (fun hr => ?_) <;> (try simp only [decide_eq_true_eq, decide_eq_false_iff_not, beq_iff_eq, beq_eq_false_iff_ne, ne_eq, bne_iff_ne, bne_eq_false_iff_eq, Bool.not_eq_true, ge_iff_le, gt_iff_lt] at hr) <;> try (exfalso; first | omega | exact hr rfl | (simp at hr; done) | (simp at hr; omega)))
   | (apply And.intro; · first | exact Nat.le_of_ble_eq_true rfl | (show indep _ _ = true; kernel_rfl) | decide | exact ⟨by decide, by decide⟩ | exact ⟨Nat.le_of_ble_eq_true rfl, allOne_of rfl⟩ | exact allOne_of rfl | exact ⟨by omega, by omega⟩ | exact ⟨by omega, by rw [lL]; omega⟩ | exact ⟨by omega, by rw [lenV]; omega⟩ | exact pL | exact pC)
   | (apply Exists.intro; apply And.intro; · first | exact rfl)
   | fail
  refine VLoop.inv (fun z : List En × Nat => stPu m k a b cs z.1 z.2) (fun z => z.2 ≤ cs.length ∧ ChIn z.1 ∧ z.1.length ≤ 800) (fun z => cs.length - z.2) (l, 0) ⟨Nat.zero_le _, hch, by show l.length ≤ 800; omega⟩ rfl ?_
  clear pL lL c1 h1 hch hl20 h6
  rintro ⟨l, i⟩ ⟨hi, hch, h8⟩ ih
  simp only at hi hch h8 ih
  show VLoop cx E _ (stPu m k a b cs l i) _
  have pL := pure_E l
  have lL := lenE l
  have hw : IntKind.i64.wrap ((i : Int) + 1) = ((i + 1 : Nat) : Int) := wrap64 (by omega) (by omega)
  refine VLoop.unroll hE mixed ?_
  by_cases hgo : i < cs.length
  case neg =>
    repeat' (conv => whnf); first
     | (refine bcase_of (fun hr => ?_) (fun hr => ?_) <;> (try simp only [decide_eq_true_eq, decide_eq_false_iff_not, beq_iff_eq, beq_eq_false_iff_ne, ne_eq, bne_iff_ne, bne_eq_false_iff_eq, Bool.not_eq_true, ge_iff_le, gt_iff_lt] at hr) <;> try (exfalso; first | omega | exact hr rfl | (simp at hr; done) | (simp at hr; omega)))
     | (apply And.intro; · first | exact Nat.le_of_ble_eq_true rfl | (show indep _ _ = true; kernel_rfl) | decide | exact ⟨by decide, by decide⟩ | exact ⟨Nat.le_of_ble_eq_true rfl, allOne_of rfl⟩ | exact allOne_of rfl | exact ⟨by omega, by omega⟩ | exact ⟨by omega, by rw [lL]; omega⟩ | exact ⟨by omega, by rw [lenV]; omega⟩ | exact pL | exact pC)
     | (apply Exists.intro; apply And.intro; · first | exact rfl | exact wakes_ok)
     | fail
    all_goals (conv => whnf)
    all_goals rfl
  case pos =>
    obtain ⟨⟨xv, xf, xc, xi⟩, hx⟩ : ∃ x, cs[i]? = some x := ⟨_, List.getElem?_eq_getElem hgo⟩
    have gi : lget (cs.map encC) ((i : Int).toNat) = some [i64V xv, i64V xf, i64V xc.n, i64V xc.a, i64V xc.b, bagV xc.p, bagV xc.q, .bool xi] := getC hx
    have pp := pure_R xc.p
    have pq := pure_R xc.q
    have c2 := lightB_ok xc.n xc.a xc.b xc.p xc.q
    have hx6 : En64 xc := hc6 _ (List.mem_of_getElem? hx)
    cases h2 : lightB xc.p xc.q with
    | false =>
      rw [h2] at c2
      repeat' (conv => whnf); first
       | (refine bcase_of (fun hr => ?_) (fun hr => ?_) <;> (try simp only [decide_eq_true_eq, decide_eq_false_iff_not, beq_iff_eq, beq_eq_false_iff_ne, ne_eq, bne_iff_ne, bne_eq_false_iff_eq, Bool.not_eq_true, ge_iff_le, gt_iff_lt] at hr) <;> try (exfalso; first | omega | exact hr rfl | (simp at hr; done) | (simp at hr; omega)))
       | (apply And.intro; · first | exact Nat.le_of_ble_eq_true rfl | (show indep _ _ = true; kernel_rfl) | decide | exact ⟨by decide, by decide⟩ | exact ⟨Nat.le_of_ble_eq_true rfl, allOne_of rfl⟩ | exact allOne_of rfl | exact ⟨by omega, by omega⟩ | exact ⟨by omega, by rw [lL]; omega⟩ | exact ⟨by omega, by rw [lenV]; omega⟩ | exact pL | exact pC | exact pp | exact pq | exact ⟨by omega, by rw [lC]; omega⟩)
       | (apply Exists.intro; apply And.intro; · first | exact rfl | exact c2 | exact wakes_ok | exact gi)
       | fail
      all_goals (conv => whnf)
      all_goals rfl
    | true =>
      rw [h2] at c2
      have hc := in_of_light h2 hx6
      have c3 := Put_ok m k xv xf l xc xi hch h8 hc
      have c4 := Put13_ok m k xv xf l xc xi hch h8 hc
      cases hp : putA m k l xv xc xi xf with
      | none =>
        rw [hp] at c3 c4
        have c5 := same_self [] nil_ch
        cases xi
        all_goals skip
        repeat' (conv => whnf); first
         | (refine bcase_of (fun hr => ?_) (fun hr => ?_) <;> (try simp only [decide_eq_true_eq, decide_eq_false_iff_not, beq_iff_eq, beq_eq_false_iff_ne, ne_eq, bne_iff_ne, bne_eq_false_iff_eq, Bool.not_eq_true, ge_iff_le, gt_iff_lt] at hr) <;> try (exfalso; first | omega | exact hr rfl | (simp at hr; done) | (simp at hr; omega)))
         | (apply And.intro; · first | exact Nat.le_of_ble_eq_true rfl | (show indep _ _ = true; kernel_rfl) | decide | exact ⟨by decide, by decide⟩ | exact ⟨Nat.le_of_ble_eq_true rfl, allOne_of rfl⟩ | exact allOne_of rfl | exact ⟨by omega, by omega⟩ | exact ⟨by omega, by rw [lL]; omega⟩ | exact ⟨by omega, by rw [lenV]; omega⟩ | exact pL | exact pC | exact pp | exact pq | exact pure_E [] | exact ⟨by omega, by rw [lC]; omega⟩)
         | (apply Exists.intro; apply And.intro; · first | exact rfl | exact c2 | exact c3 | exact c4 | exact c5 | exact gi)
         | rw [hw]
         | fail
        all_goals (conv => whnf)
        all_goals refine VLoop.norm [2, 3, 7, 8] [3] ?_
        repeat' (conv => whnf); first
         | (refine bcase_of (fun hr => ?_) (fun hr => ?_) <;> (try simp only [decide_eq_true_eq, decide_eq_false_iff_not, beq_iff_eq, beq_eq_false_iff_ne, ne_eq, bne_iff_ne, bne_eq_false_iff_eq, Bool.not_eq_true, ge_iff_le, gt_iff_lt] at hr) <;> try (exfalso; first | omega | exact hr rfl | (simp at hr; done) | (simp at hr; omega)))
         | (apply And.intro; · first | exact Nat.le_of_ble_eq_true rfl | (show indep _ _ = true; kernel_rfl) | decide | exact ⟨by decide, by decide⟩ | exact ⟨Nat.le_of_ble_eq_true rfl, allOne_of rfl⟩ | exact allOne_of rfl | exact ⟨by omega, by omega⟩ | exact ⟨by omega, by rw [lL]; omega⟩ | exact ⟨by omega, by rw [lenV]; omega⟩ | exact pL | exact pC)
         | (apply Exists.intro; apply And.intro; · first | exact rfl)
         | fail
        all_goals try rw [hw]
        all_goals exact ih (l, i + 1) ⟨hgo, hch, h8⟩ (by show cs.length - (i + 1) < cs.length - i; omega)
      | some l' =>
        rw [hp] at c3 c4
        obtain ⟨hch', h9⟩ := put_ch hp hch h8 hc
        have c5 := same_self l' hch'
        have c6 := goodL_ok m l' (by omega) hch'.2
        rw [put_good hp] at c6
        have pL' := pure_E l'
        cases xi
        all_goals skip
        repeat' (conv => whnf); first
         | (refine bcase_of (fun hr => ?_) (fun hr => ?_) <;> (try simp only [decide_eq_true_eq, decide_eq_false_iff_not, beq_iff_eq, beq_eq_false_iff_ne, ne_eq, bne_iff_ne, bne_eq_false_iff_eq, Bool.not_eq_true, ge_iff_le, gt_iff_lt] at hr) <;> try (exfalso; first | omega | exact hr rfl | (simp at hr; done) | (simp at hr; omega)))
         | (apply And.intro; · first | exact Nat.le_of_ble_eq_true rfl | (show indep _ _ = true; kernel_rfl) | decide | exact ⟨by decide, by decide⟩ | exact ⟨Nat.le_of_ble_eq_true rfl, allOne_of rfl⟩ | exact allOne_of rfl | exact ⟨by omega, by omega⟩ | exact ⟨by omega, by rw [lL]; omega⟩ | exact ⟨by omega, by rw [lenV]; omega⟩ | exact pL | exact pC | exact pp | exact pq | exact pL' | exact ⟨by omega, by rw [lC]; omega⟩)
         | (apply Exists.intro; apply And.intro; · first | exact rfl | exact c2 | exact c3 | exact c4 | exact c5 | exact c6 | exact gi)
         | rw [hw]
         | fail
        all_goals (conv => whnf)
        all_goals refine VLoop.norm [2, 3, 7, 8] [3] ?_
        repeat' (conv => whnf); first
         | (refine bcase_of (fun hr => ?_) (fun hr => ?_) <;> (try simp only [decide_eq_true_eq, decide_eq_false_iff_not, beq_iff_eq, beq_eq_false_iff_ne, ne_eq, bne_iff_ne, bne_eq_false_iff_eq, Bool.not_eq_true, ge_iff_le, gt_iff_lt] at hr) <;> try (exfalso; first | omega | exact hr rfl | (simp at hr; done) | (simp at hr; omega)))
         | (apply And.intro; · first | exact Nat.le_of_ble_eq_true rfl | (show indep _ _ = true; kernel_rfl) | decide | exact ⟨by decide, by decide⟩ | exact ⟨Nat.le_of_ble_eq_true rfl, allOne_of rfl⟩ | exact allOne_of rfl | exact ⟨by omega, by omega⟩ | exact ⟨by omega, by rw [lL]; omega⟩ | exact ⟨by omega, by rw [lenV]; omega⟩ | exact pL' | exact pC)
         | (apply Exists.intro; apply And.intro; · first | exact rfl)
         | fail
        all_goals try rw [hw]
        all_goals exact ih (l', i + 1) ⟨hgo, hch', by show l'.length ≤ 800; omega⟩ (by show cs.length - (i + 1) < cs.length - i; omega)
end Go.Proofs.YtbppemcdphgknaaDoor
