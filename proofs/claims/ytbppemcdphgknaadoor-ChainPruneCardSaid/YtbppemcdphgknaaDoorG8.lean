/- G8: merged. -/
import Derived.Test.YtbppemcdphgknaaDoorG7
import Derived.Test.YtbppemcdphgknaaDoorVm31
import Derived.Test.YtbppemcdphgknaaDoorVm21
import Derived.Test.YtbppemcdphgknaaDoorRows
import Derived.Test.YtbppemcdphgknaaDoorTie
import Derived.ProofKit
import Derived.LaidMore
import Derived.OpenShut
import Derived.Stop.Joined
import Derived.SevenTiedAt
set_option linter.unusedVariables false
set_option linter.unusedSimpArgs false
/- Chapter 13: ChainPrune. -/
namespace Go.Proofs.YtbppemcdphgknaaDoor
open Go Go.Vm
set_option maxRecDepth 100000
set_option maxHeartbeats 40000000
set_option linter.unusedSimpArgs false
set_option linter.unusedVariables false
def stP0 (m k a b ll hh : Int) (l w : List En) (xs : List Int) (j : Nat) : St DV := mkSt 157 [(1, chV l), (3, .ref (4, 1) 0), (7, i64V ll), (8, i64V hh), (9, chV w), (10, .rsl (63, 1) 1 0 xs.length), (11, i64V j)] [(3, .box [i64V m, i64V k, i64V a, i64V b]), (62, .row 1 (VR xs) false)] []
def stP2 (m k a b ll hh : Int) (l w : List En) (xs : List Int) (j : Nat) : St DV := mkSt 157 [(1, chV l), (3, .ref (4, 1) 0), (7, i64V ll), (8, i64V hh), (9, chV w), (10, .lst 1 (VR xs)), (12, i64V j)] [(3, .box [i64V m, i64V k, i64V a, i64V b])] []
def stP4 (m k a b ll hh : Int) (l w : List En) (j : Nat) : St DV := mkSt 157 [(1, chV l), (3, .ref (4, 1) 0), (7, i64V ll), (8, i64V hh), (9, chV w), (13, i64V j)] [(3, .box [i64V m, i64V k, i64V a, i64V b])] []
theorem ra1 (ys : List Int) (x : List V) (h : ys.length ≤ 40) : 0 + 1 ≤ [x].length ∧ (false = true → 0 + 1 = [x].length) ∧ (1 + (VR ys).length) * 8 ≤ roomBound ∧ 1 + (VR ys).length ≤ roomBound := ⟨by simp, (by intro h; cases h), by rw [lenV]; unfold roomBound; omega, by rw [lenV]; unfold roomBound; omega⟩
theorem fP (hh : Int) (ys : List Int) (l : List En) : List.take 1 (List.drop 0 [[i64V hh]]) ++ VR ys = VR ((hh :: ys) ++ vers (l.take 0)) := by simp [VR, vers]
theorem fPl (hh : Int) (ys : List Int) (l : List En) : 1 + (VR ys).length = ((hh :: ys) ++ vers (l.take 0)).length := by simp [vers, lenV]; omega
theorem prune_law_ok (m k a b : Int) (l : List En) (ys : List Int) (h6 : ∀ e ∈ l, En64 e) : PTriple Tryd.prog gv 7 [.agg [i64V m, i64V k, i64V a, i64V b], chV l, .lst 1 (VR ys)] (.bool true) := by
  have pL := pure_E l
  have lL := lenE l
  have pY := pure_V ys
  have lY := lenV ys
  have c1 := lightL_ok l
  cases h1 : lightL l with
  | false =>
    rw [h1] at c1
    refine PTriple.of_body (C := cx) Tryd.func7 rfl (by kernel_rfl) mixed fun E hE => ?_
    repeat' (conv => whnf); first
     | (refine bcase_of (fun hr => ?_) (fun hr => ?_) <;> (try simp only [decide_eq_true_eq, decide_eq_false_iff_not, beq_iff_eq, beq_eq_false_iff_ne, ne_eq, bne_iff_ne, bne_eq_false_iff_eq, Bool.not_eq_true, ge_iff_le, gt_iff_lt] at hr) <;> try (exfalso; first | omega | exact hr rfl | (simp at hr; done) | (simp at hr; omega)))
     | (apply And.intro; · first | exact Nat.le_of_ble_eq_true rfl | (show indep _ _ = true; kernel_rfl) | decide | exact ⟨by decide, by decide⟩ | exact ⟨Nat.le_of_ble_eq_true rfl, allOne_of rfl⟩ | exact allOne_of rfl | exact ⟨by omega, by omega⟩ | exact ⟨by omega, by rw [lL]; omega⟩ | exact ⟨by omega, by rw [lenV]; omega⟩ | exact pL | exact pY)
     | (apply Exists.intro; apply And.intro; · first | exact rfl | exact c1 | exact c2 | exact wakes_ok)
     | fail
    all_goals (conv => whnf)
    all_goals first | rfl | (exfalso; omega)
  | true =>
  rw [h1] at c1
  have hch := ch_of_light h1 h6
  have hl20 := (light_len h1).1
  have c2 := goodL13_ok m l (by omega) hch.2
  cases hg : goodL m l with
  | false =>
    rw [hg] at c2
    refine PTriple.of_body (C := cx) Tryd.func7 rfl (by kernel_rfl) mixed fun E hE => ?_
    repeat' (conv => whnf); first
     | (refine bcase_of (fun hr => ?_) (fun hr => ?_) <;> (try simp only [decide_eq_true_eq, decide_eq_false_iff_not, beq_iff_eq, beq_eq_false_iff_ne, ne_eq, bne_iff_ne, bne_eq_false_iff_eq, Bool.not_eq_true, ge_iff_le, gt_iff_lt] at hr) <;> try (exfalso; first | omega | exact hr rfl | (simp at hr; done) | (simp at hr; omega)))
     | (apply And.intro; · first | exact Nat.le_of_ble_eq_true rfl | (show indep _ _ = true; kernel_rfl) | decide | exact ⟨by decide, by decide⟩ | exact ⟨Nat.le_of_ble_eq_true rfl, allOne_of rfl⟩ | exact allOne_of rfl | exact ⟨by omega, by omega⟩ | exact ⟨by omega, by rw [lL]; omega⟩ | exact ⟨by omega, by rw [lenV]; omega⟩ | exact pL | exact pY)
     | (apply Exists.intro; apply And.intro; · first | exact rfl | exact c1 | exact c2 | exact wakes_ok)
     | fail
    all_goals (conv => whnf)
    all_goals first | rfl | (exfalso; omega)
  | true =>
  rw [hg] at c2
  by_cases hn : ys.length ≤ 40
  case neg =>
    refine PTriple.of_body (C := cx) Tryd.func7 rfl (by kernel_rfl) mixed fun E hE => ?_
    repeat' (conv => whnf); first
     | (refine bcase_of (fun hr => ?_) (fun hr => ?_) <;> (try simp only [decide_eq_true_eq, decide_eq_false_iff_not, beq_iff_eq, beq_eq_false_iff_ne, ne_eq, bne_iff_ne, bne_eq_false_iff_eq, Bool.not_eq_true, ge_iff_le, gt_iff_lt] at hr) <;> try (exfalso; first | omega | exact hr rfl | (simp at hr; done) | (simp at hr; omega)))
     | (apply And.intro; · first | exact Nat.le_of_ble_eq_true rfl | (show indep _ _ = true; kernel_rfl) | decide | exact ⟨by decide, by decide⟩ | exact ⟨Nat.le_of_ble_eq_true rfl, allOne_of rfl⟩ | exact allOne_of rfl | exact ⟨by omega, by omega⟩ | exact ⟨by omega, by rw [lL]; omega⟩ | exact ⟨by omega, by rw [lenV]; omega⟩ | exact pL | exact pY)
     | (apply Exists.intro; apply And.intro; · first | exact rfl | exact c1 | exact c2 | exact wakes_ok)
     | fail
    all_goals (conv => whnf)
    all_goals first | rfl | (exfalso; omega)
  case pos =>
  have c3 := fun y => Prune_ok m l y hch
  refine PTriple.of_body (C := cx) Tryd.func7 rfl (by kernel_rfl) mixed fun E hE => ?_
  repeat' (conv => whnf); first
   | (refine bcase_of (fun hr => ?_) (fun hr => ?_) <;> (try simp only [decide_eq_true_eq, decide_eq_false_iff_not, beq_iff_eq, beq_eq_false_iff_ne, ne_eq, bne_iff_ne, bne_eq_false_iff_eq, Bool.not_eq_true, ge_iff_le, gt_iff_lt] at hr) <;> try (exfalso; first | omega | exact hr rfl | (simp at hr; done) | (simp at hr; omega)))
   | (apply And.intro; · first | exact Nat.le_of_ble_eq_true rfl | (show indep _ _ = true; kernel_rfl) | decide | exact ⟨by decide, by decide⟩ | exact ⟨Nat.le_of_ble_eq_true rfl, allOne_of rfl⟩ | exact allOne_of rfl | exact ⟨by omega, by omega⟩ | exact ⟨by omega, by rw [lL]; omega⟩ | exact ⟨by omega, by rw [lenV]; omega⟩ | exact pL | exact pY | exact one_V ys | exact ra1 ys _ hn)
   | (apply Exists.intro; apply And.intro; · first | exact rfl | exact c1 | exact c2 | exact c3 _)
   | fail
  all_goals (conv => whnf)
  refine VLoop.move 10 62 ?_
  conv => whnf
  refine VLoop.norm [1, 3, 7, 8, 9, 10, 11] [3, 62] ?_
  repeat' (conv => whnf); first
   | (refine bcase_of (fun hr => ?_) (fun hr => ?_) <;> (try simp only [decide_eq_true_eq, decide_eq_false_iff_not, beq_iff_eq, beq_eq_false_iff_ne, ne_eq, bne_iff_ne, bne_eq_false_iff_eq, Bool.not_eq_true, ge_iff_le, gt_iff_lt] at hr) <;> try (exfalso; first | omega | exact hr rfl | (simp at hr; done) | (simp at hr; omega)))
   | (apply And.intro; · first | exact Nat.le_of_ble_eq_true rfl | (show indep _ _ = true; kernel_rfl) | decide | exact ⟨by decide, by decide⟩ | exact ⟨Nat.le_of_ble_eq_true rfl, allOne_of rfl⟩ | exact allOne_of rfl | exact ⟨by omega, by omega⟩ | exact ⟨by omega, by rw [lL]; omega⟩ | exact ⟨by omega, by rw [lenV]; omega⟩ | exact pL | exact pY | exact pure_E _ | (rw [fP _ ys l]; exact pure_V _))
   | (apply Exists.intro; apply And.intro; · first | exact rfl)
   | fail
  conv => whnf
  obtain ⟨hh, hhe⟩ : ∃ hh, hh = (if a > b then a else b) := ⟨_, rfl⟩
  obtain ⟨ll, lle⟩ : ∃ ll, ll = (if a < b then a else b) := ⟨_, rfl⟩
  have hlh : ll ≤ hh := by rw [lle, hhe]; split <;> split <;> omega
  rw [fP _ ys l, fPl hh ys l]
  refine VLoop.inv (fun j : Nat => stP0 m k a b (if a < b then a else b) (if a > b then a else b) l (pruneS m l (if a > b then a else b)) (((if a > b then a else b) :: ys) ++ vers (l.take j)) j) (fun j => j ≤ l.length) (fun j => l.length - j) 0 (Nat.zero_le _) (by rw [← hhe]; rfl) ?_
  rw [← hhe, ← lle]
  obtain ⟨w, hw⟩ : ∃ w, w = pruneS m l hh := ⟨_, rfl⟩
  have hwg : goodL m w = true := by rw [hw]; exact good_prune hg hh
  have hwc : ChIn w := by rw [hw]; exact pruneS_ch hch hh
  have hwl : w.length ≤ l.length := by rw [hw]; exact prune_len hg hh
  have hat : ∀ y, hh ≤ y → atS m w y = atS m l y := fun y hy => by rw [hw]; exact at_prune hg hy
  have hlow : ∀ (i : Nat) (e : En), w[i]? = some e → e.v ≤ hh → i = 0 ∧ e.o ≠ 3 := fun i e he hv => prune_low hg (by rw [← hw]; exact he) hv
  have e1 : pruneS m (pruneS m l ll) hh = w := by rw [hw]; exact prune_prune hg hlh
  have e2 : pruneS m w hh = w := by rw [hw]; exact prune_behind hg (Int.le_refl _)
  have e3 : pruneS m w ll = w := by rw [hw]; exact prune_behind hg hlh
  have c4 := Prune_ok m l ll hch
  have hpc := pruneS_ch (m := m) hch ll
  have c5 := Prune_ok m (pruneS m l ll) hh hpc
  rw [e1] at c5
  have pP := pure_E (pruneS m l ll)
  generalize pruneS m l ll = q at c4 c5 pP
  have c6 := Prune_ok m w hh hwc
  have c7 := Prune_ok m w ll hwc
  rw [e2] at c6
  rw [e3] at c7
  have c8 := same_self w hwc
  have c9 := goodL_ok m w (by omega) hwc.2
  rw [hwg] at c9
  rw [← hw]
  clear hw e1 e2 e3 c3
  have pW := pure_E w
  have lW := lenE w
  intro j hj ih
  simp only at hj ih
  show VLoop cx E _ (stP0 m k a b ll hh l w ((hh :: ys) ++ vers (l.take j)) j) _
  obtain ⟨xs, hxs⟩ : ∃ xs, xs = (hh :: ys) ++ vers (l.take j) := ⟨_, rfl⟩
  have hxl : xs.length = ys.length + 1 + j := by rw [hxs]; simp [vers]; omega
  rw [← hxs]
  have hw : IntKind.i64.wrap ((j : Int) + 1) = ((j + 1 : Nat) : Int) := wrap64 (by omega) (by omega)
  have pX := pure_V xs
  have lX := lenV xs
  refine VLoop.unroll hE mixed ?_
  by_cases hgo : j < l.length
  case pos =>
    obtain ⟨e, he⟩ : ∃ e, l[j]? = some e := ⟨_, List.getElem?_eq_getElem hgo⟩
    have gj := getEc he
    have pp := pure_R e.p
    have pq := pure_R e.q
    have ht := vers_take he
    repeat' (conv => whnf); first
     | (refine bcase_of (fun hr => ?_) (fun hr => ?_) <;> (try simp only [decide_eq_true_eq, decide_eq_false_iff_not, beq_iff_eq, beq_eq_false_iff_ne, ne_eq, bne_iff_ne, bne_eq_false_iff_eq, Bool.not_eq_true, ge_iff_le, gt_iff_lt] at hr) <;> try (exfalso; first | omega | exact hr rfl | (simp at hr; done) | (simp at hr; omega)))
     | (apply And.intro; · first | exact Nat.le_of_ble_eq_true rfl | (show indep _ _ = true; kernel_rfl) | decide | exact ⟨by decide, by decide⟩ | exact ⟨Nat.le_of_ble_eq_true rfl, allOne_of rfl⟩ | exact allOne_of rfl | exact ⟨by omega, by omega⟩ | exact ⟨by omega, by rw [lL]; omega⟩ | exact ⟨by omega, by rw [lenV]; omega⟩ | exact pL | exact pW | exact pX | exact raV _ _ (by simp; omega) | (rw [takeV]; exact pX))
     | (apply Exists.intro; apply And.intro; · first | exact rfl | exact gj)
     | rw [hw]
     | fail
    all_goals (conv => whnf)
    refine VLoop.norm [1, 3, 7, 8, 9, 10, 11] [3, 62] ?_
    repeat' (conv => whnf); first
     | (refine bcase_of (fun hr => ?_) (fun hr => ?_) <;> (try simp only [decide_eq_true_eq, decide_eq_false_iff_not, beq_iff_eq, beq_eq_false_iff_ne, ne_eq, bne_iff_ne, bne_eq_false_iff_eq, Bool.not_eq_true, ge_iff_le, gt_iff_lt] at hr) <;> try (exfalso; first | omega | exact hr rfl | (simp at hr; done) | (simp at hr; omega)))
     | (apply And.intro; · first | exact Nat.le_of_ble_eq_true rfl | (show indep _ _ = true; kernel_rfl) | decide | exact ⟨by decide, by decide⟩ | exact ⟨Nat.le_of_ble_eq_true rfl, allOne_of rfl⟩ | exact allOne_of rfl | exact ⟨by omega, by omega⟩ | exact ⟨by omega, by rw [lL]; omega⟩ | exact ⟨by omega, by rw [lenV]; omega⟩ | exact pL | exact pW | exact pX | (rw [addV]; exact pure_V _))
     | (apply Exists.intro; apply And.intro; · first | exact rfl)
     | fail
    try rw [hw]
    rw [addV, show xs.length + (([[i64V e.v]].drop 0).take 1).length = (xs ++ [e.v]).length by simp]
    have e2 : xs ++ [e.v] = (hh :: ys) ++ vers (l.take (j + 1)) := by rw [ht, hxs, List.append_assoc]
    rw [e2]
    exact ih (j + 1) hgo (by show l.length - (j + 1) < l.length - j; omega)
  case neg =>
    repeat' (conv => whnf); first
     | (refine bcase_of (fun hr => ?_) (fun hr => ?_) <;> (try simp only [decide_eq_true_eq, decide_eq_false_iff_not, beq_iff_eq, beq_eq_false_iff_ne, ne_eq, bne_iff_ne, bne_eq_false_iff_eq, Bool.not_eq_true, ge_iff_le, gt_iff_lt] at hr) <;> try (exfalso; first | omega | exact hr rfl | (simp at hr; done) | (simp at hr; omega)))
     | (apply And.intro; · first | exact Nat.le_of_ble_eq_true rfl | (show indep _ _ = true; kernel_rfl) | decide | exact ⟨by decide, by decide⟩ | exact ⟨Nat.le_of_ble_eq_true rfl, allOne_of rfl⟩ | exact allOne_of rfl | exact ⟨by omega, by omega⟩ | exact ⟨by omega, by rw [lL]; omega⟩ | exact ⟨by omega, by rw [lenV]; omega⟩ | exact pL | exact pW | exact pX)
     | (apply Exists.intro; apply And.intro; · first | exact rfl)
     | fail
    all_goals (conv => whnf)
    refine VLoop.weak [.snapT 10] ?_
    repeat' (conv => whnf); first
     | (refine bcase_of (fun hr => ?_) (fun hr => ?_) <;> (try simp only [decide_eq_true_eq, decide_eq_false_iff_not, beq_iff_eq, beq_eq_false_iff_ne, ne_eq, bne_iff_ne, bne_eq_false_iff_eq, Bool.not_eq_true, ge_iff_le, gt_iff_lt] at hr) <;> try (exfalso; first | omega | exact hr rfl | (simp at hr; done) | (simp at hr; omega)))
     | (apply And.intro; · first | exact Nat.le_of_ble_eq_true rfl | (show indep _ _ = true; kernel_rfl) | decide | exact ⟨by decide, by decide⟩ | exact ⟨Nat.le_of_ble_eq_true rfl, allOne_of rfl⟩ | exact allOne_of rfl | exact ⟨by omega, by omega⟩ | exact ⟨by omega, by rw [lL]; omega⟩ | exact ⟨by omega, by rw [lenV]; omega⟩ | exact ⟨rfl, by simp [lenV]⟩)
     | (apply Exists.intro; apply And.intro; · first | exact rfl)
     | fail
    refine VLoop.norm [1, 3, 7, 8, 9, 10, 12] [3] ?_
    repeat' (conv => whnf); first
     | (refine bcase_of (fun hr => ?_) (fun hr => ?_) <;> (try simp only [decide_eq_true_eq, decide_eq_false_iff_not, beq_iff_eq, beq_eq_false_iff_ne, ne_eq, bne_iff_ne, bne_eq_false_iff_eq, Bool.not_eq_true, ge_iff_le, gt_iff_lt] at hr) <;> try (exfalso; first | omega | exact hr rfl | (simp at hr; done) | (simp at hr; omega)))
     | (apply And.intro; · first | exact Nat.le_of_ble_eq_true rfl | (show indep _ _ = true; kernel_rfl) | decide | exact ⟨by decide, by decide⟩ | exact ⟨Nat.le_of_ble_eq_true rfl, allOne_of rfl⟩ | exact allOne_of rfl | exact ⟨by omega, by omega⟩ | exact ⟨by omega, by rw [lL]; omega⟩ | exact ⟨by omega, by rw [lenV]; omega⟩ | exact pL | exact pW | exact pX | (rw [takeV]; exact pX))
     | (apply Exists.intro; apply And.intro; · first | exact rfl)
     | fail
    all_goals (conv => whnf)
    rw [takeV]
    clear ih hxs
    refine VLoop.inv (fun n : Nat => stP2 m k a b ll hh l w xs n) (fun n => n ≤ xs.length) (fun n => xs.length - n) 0 (Nat.zero_le _) rfl ?_
    intro n hn2 ihn
    simp only at hn2 ihn
    show VLoop cx E _ (stP2 m k a b ll hh l w xs n) _
    have hwn : IntKind.i64.wrap ((n : Int) + 1) = ((n + 1 : Nat) : Int) := wrap64 (by omega) (by omega)
    refine VLoop.unroll hE mixed ?_
    by_cases hng : n < xs.length
    case pos =>
      obtain ⟨y, hy⟩ : ∃ y, xs[n]? = some y := ⟨_, List.getElem?_eq_getElem hng⟩
      have gy := getV hy
      by_cases hyf : hh ≤ y
      case pos =>
        have d1 := alike_ok m w l y hwc hch
        rw [alike_of (hat y hyf)] at d1
        repeat' (conv => whnf); first
         | (refine bcase_of (fun hr => ?_) (fun hr => ?_) <;> (try simp only [decide_eq_true_eq, decide_eq_false_iff_not, beq_iff_eq, beq_eq_false_iff_ne, ne_eq, bne_iff_ne, bne_eq_false_iff_eq, Bool.not_eq_true, ge_iff_le, gt_iff_lt] at hr) <;> try (exfalso; first | omega | exact hr rfl | (simp at hr; done) | (simp at hr; omega)))
         | (apply And.intro; · first | exact Nat.le_of_ble_eq_true rfl | (show indep _ _ = true; kernel_rfl) | decide | exact ⟨by decide, by decide⟩ | exact ⟨Nat.le_of_ble_eq_true rfl, allOne_of rfl⟩ | exact allOne_of rfl | exact ⟨by omega, by omega⟩ | exact ⟨by omega, by rw [lL]; omega⟩ | exact ⟨by omega, by rw [lenV]; omega⟩ | exact pL | exact pW | exact pX)
         | (apply Exists.intro; apply And.intro; · first | exact rfl | exact d1 | exact gy)
         | rw [hwn]
         | fail
        all_goals (conv => whnf)
        all_goals refine VLoop.norm [1, 3, 7, 8, 9, 10, 12] [3] ?_
        repeat' (conv => whnf); first
         | (refine bcase_of (fun hr => ?_) (fun hr => ?_) <;> (try simp only [decide_eq_true_eq, decide_eq_false_iff_not, beq_iff_eq, beq_eq_false_iff_ne, ne_eq, bne_iff_ne, bne_eq_false_iff_eq, Bool.not_eq_true, ge_iff_le, gt_iff_lt] at hr) <;> try (exfalso; first | omega | exact hr rfl | (simp at hr; done) | (simp at hr; omega)))
         | (apply And.intro; · first | exact Nat.le_of_ble_eq_true rfl | (show indep _ _ = true; kernel_rfl) | decide | exact ⟨by decide, by decide⟩ | exact ⟨Nat.le_of_ble_eq_true rfl, allOne_of rfl⟩ | exact allOne_of rfl | exact ⟨by omega, by omega⟩ | exact ⟨by omega, by rw [lL]; omega⟩ | exact ⟨by omega, by rw [lenV]; omega⟩ | exact pL | exact pW | exact pX)
         | (apply Exists.intro; apply And.intro; · first | exact rfl)
         | fail
        all_goals try rw [hwn]
        all_goals exact ihn (n + 1) hng (by show xs.length - (n + 1) < xs.length - n; omega)
      case neg =>
        repeat' (conv => whnf); first
         | (refine bcase_of (fun hr => ?_) (fun hr => ?_) <;> (try simp only [decide_eq_true_eq, decide_eq_false_iff_not, beq_iff_eq, beq_eq_false_iff_ne, ne_eq, bne_iff_ne, bne_eq_false_iff_eq, Bool.not_eq_true, ge_iff_le, gt_iff_lt] at hr) <;> try (exfalso; first | omega | exact hr rfl | (simp at hr; done) | (simp at hr; omega)))
         | (apply And.intro; · first | exact Nat.le_of_ble_eq_true rfl | (show indep _ _ = true; kernel_rfl) | decide | exact ⟨by decide, by decide⟩ | exact ⟨Nat.le_of_ble_eq_true rfl, allOne_of rfl⟩ | exact allOne_of rfl | exact ⟨by omega, by omega⟩ | exact ⟨by omega, by rw [lL]; omega⟩ | exact ⟨by omega, by rw [lenV]; omega⟩ | exact pL | exact pW | exact pX)
         | (apply Exists.intro; apply And.intro; · first | exact rfl | exact gy)
         | rw [hwn]
         | fail
        all_goals (conv => whnf)
        all_goals refine VLoop.norm [1, 3, 7, 8, 9, 10, 12] [3] ?_
        repeat' (conv => whnf); first
         | (refine bcase_of (fun hr => ?_) (fun hr => ?_) <;> (try simp only [decide_eq_true_eq, decide_eq_false_iff_not, beq_iff_eq, beq_eq_false_iff_ne, ne_eq, bne_iff_ne, bne_eq_false_iff_eq, Bool.not_eq_true, ge_iff_le, gt_iff_lt] at hr) <;> try (exfalso; first | omega | exact hr rfl | (simp at hr; done) | (simp at hr; omega)))
         | (apply And.intro; · first | exact Nat.le_of_ble_eq_true rfl | (show indep _ _ = true; kernel_rfl) | decide | exact ⟨by decide, by decide⟩ | exact ⟨Nat.le_of_ble_eq_true rfl, allOne_of rfl⟩ | exact allOne_of rfl | exact ⟨by omega, by omega⟩ | exact ⟨by omega, by rw [lL]; omega⟩ | exact ⟨by omega, by rw [lenV]; omega⟩ | exact pL | exact pW | exact pX)
         | (apply Exists.intro; apply And.intro; · first | exact rfl)
         | fail
        all_goals try rw [hwn]
        all_goals exact ihn (n + 1) hng (by show xs.length - (n + 1) < xs.length - n; omega)
    case neg =>
      repeat' (conv => whnf); first
       | (refine bcase_of (fun hr => ?_) (fun hr => ?_) <;> (try simp only [decide_eq_true_eq, decide_eq_false_iff_not, beq_iff_eq, beq_eq_false_iff_ne, ne_eq, bne_iff_ne, bne_eq_false_iff_eq, Bool.not_eq_true, ge_iff_le, gt_iff_lt] at hr) <;> try (exfalso; first | omega | exact hr rfl | (simp at hr; done) | (simp at hr; omega)))
       | (apply And.intro; · first | exact Nat.le_of_ble_eq_true rfl | (show indep _ _ = true; kernel_rfl) | decide | exact ⟨by decide, by decide⟩ | exact ⟨Nat.le_of_ble_eq_true rfl, allOne_of rfl⟩ | exact allOne_of rfl | exact ⟨by omega, by omega⟩ | exact ⟨by omega, by rw [lL]; omega⟩ | exact ⟨by omega, by rw [lenV]; omega⟩ | exact pL | exact pW | exact pX)
       | (apply Exists.intro; apply And.intro; · first | exact rfl)
       | fail
      all_goals (conv => whnf)
      refine VLoop.norm [1, 3, 7, 8, 9, 13] [3] ?_
      repeat' (conv => whnf); first
       | (refine bcase_of (fun hr => ?_) (fun hr => ?_) <;> (try simp only [decide_eq_true_eq, decide_eq_false_iff_not, beq_iff_eq, beq_eq_false_iff_ne, ne_eq, bne_iff_ne, bne_eq_false_iff_eq, Bool.not_eq_true, ge_iff_le, gt_iff_lt] at hr) <;> try (exfalso; first | omega | exact hr rfl | (simp at hr; done) | (simp at hr; omega)))
       | (apply And.intro; · first | exact Nat.le_of_ble_eq_true rfl | (show indep _ _ = true; kernel_rfl) | decide | exact ⟨by decide, by decide⟩ | exact ⟨Nat.le_of_ble_eq_true rfl, allOne_of rfl⟩ | exact allOne_of rfl | exact ⟨by omega, by omega⟩ | exact ⟨by omega, by rw [lL]; omega⟩ | exact ⟨by omega, by rw [lenV]; omega⟩ | exact pL | exact pW | exact pX)
       | (apply Exists.intro; apply And.intro; · first | exact rfl)
       | fail
      clear ihn
      refine VLoop.inv (fun n : Nat => stP4 m k a b ll hh l w n) (fun n => n ≤ w.length) (fun n => w.length - n) 0 (Nat.zero_le _) rfl ?_
      intro t ht2 iht
      simp only at ht2 iht
      show VLoop cx E _ (stP4 m k a b ll hh l w t) _
      have hwt : IntKind.i64.wrap ((t : Int) + 1) = ((t + 1 : Nat) : Int) := wrap64 (by omega) (by omega)
      refine VLoop.unroll hE mixed ?_
      by_cases htg : t < w.length
      case pos =>
        obtain ⟨e, he⟩ : ∃ e, w[t]? = some e := ⟨_, List.getElem?_eq_getElem htg⟩
        have gj := getEc he
        have pp := pure_R e.p
        have pq := pure_R e.q
        have hl2 := hlow t e he
        by_cases hev : e.v ≤ hh
        case pos =>
          obtain ⟨ht0, ho3⟩ := hl2 hev
          repeat' (conv => whnf); first
           | (refine bcase_of (fun hr => ?_) (fun hr => ?_) <;> (try simp only [decide_eq_true_eq, decide_eq_false_iff_not, beq_iff_eq, beq_eq_false_iff_ne, ne_eq, bne_iff_ne, bne_eq_false_iff_eq, Bool.not_eq_true, ge_iff_le, gt_iff_lt] at hr) <;> try (exfalso; first | omega | exact hr rfl | (simp at hr; done) | (simp at hr; omega)))
           | (apply And.intro; · first | exact Nat.le_of_ble_eq_true rfl | (show indep _ _ = true; kernel_rfl) | decide | exact ⟨by decide, by decide⟩ | exact ⟨Nat.le_of_ble_eq_true rfl, allOne_of rfl⟩ | exact allOne_of rfl | exact ⟨by omega, by omega⟩ | exact ⟨by omega, by rw [lL]; omega⟩ | exact ⟨by omega, by rw [lenV]; omega⟩ | exact pL | exact pW | exact pX | exact ⟨by omega, by rw [lW]; omega⟩)
           | (apply Exists.intro; apply And.intro; · first | exact rfl | exact gj)
           | rw [hwt]
           | fail
          all_goals (conv => whnf)
          all_goals refine VLoop.norm [1, 3, 7, 8, 9, 13] [3] ?_
          repeat' (conv => whnf); first
           | (refine bcase_of (fun hr => ?_) (fun hr => ?_) <;> (try simp only [decide_eq_true_eq, decide_eq_false_iff_not, beq_iff_eq, beq_eq_false_iff_ne, ne_eq, bne_iff_ne, bne_eq_false_iff_eq, Bool.not_eq_true, ge_iff_le, gt_iff_lt] at hr) <;> try (exfalso; first | omega | exact hr rfl | (simp at hr; done) | (simp at hr; omega)))
           | (apply And.intro; · first | exact Nat.le_of_ble_eq_true rfl | (show indep _ _ = true; kernel_rfl) | decide | exact ⟨by decide, by decide⟩ | exact ⟨Nat.le_of_ble_eq_true rfl, allOne_of rfl⟩ | exact allOne_of rfl | exact ⟨by omega, by omega⟩ | exact ⟨by omega, by rw [lL]; omega⟩ | exact ⟨by omega, by rw [lenV]; omega⟩ | exact pL | exact pW | exact pX)
           | (apply Exists.intro; apply And.intro; · first | exact rfl)
           | fail
          all_goals try rw [hwt]
          all_goals exact iht (t + 1) htg (by show w.length - (t + 1) < w.length - t; omega)
        case neg =>
          repeat' (conv => whnf); first
           | (refine bcase_of (fun hr => ?_) (fun hr => ?_) <;> (try simp only [decide_eq_true_eq, decide_eq_false_iff_not, beq_iff_eq, beq_eq_false_iff_ne, ne_eq, bne_iff_ne, bne_eq_false_iff_eq, Bool.not_eq_true, ge_iff_le, gt_iff_lt] at hr) <;> try (exfalso; first | omega | exact hr rfl | (simp at hr; done) | (simp at hr; omega)))
           | (apply And.intro; · first | exact Nat.le_of_ble_eq_true rfl | (show indep _ _ = true; kernel_rfl) | decide | exact ⟨by decide, by decide⟩ | exact ⟨Nat.le_of_ble_eq_true rfl, allOne_of rfl⟩ | exact allOne_of rfl | exact ⟨by omega, by omega⟩ | exact ⟨by omega, by rw [lL]; omega⟩ | exact ⟨by omega, by rw [lenV]; omega⟩ | exact pL | exact pW | exact pX | exact ⟨by omega, by rw [lW]; omega⟩)
           | (apply Exists.intro; apply And.intro; · first | exact rfl | exact gj)
           | rw [hwt]
           | fail
          all_goals (conv => whnf)
          all_goals refine VLoop.norm [1, 3, 7, 8, 9, 13] [3] ?_
          repeat' (conv => whnf); first
           | (refine bcase_of (fun hr => ?_) (fun hr => ?_) <;> (try simp only [decide_eq_true_eq, decide_eq_false_iff_not, beq_iff_eq, beq_eq_false_iff_ne, ne_eq, bne_iff_ne, bne_eq_false_iff_eq, Bool.not_eq_true, ge_iff_le, gt_iff_lt] at hr) <;> try (exfalso; first | omega | exact hr rfl | (simp at hr; done) | (simp at hr; omega)))
           | (apply And.intro; · first | exact Nat.le_of_ble_eq_true rfl | (show indep _ _ = true; kernel_rfl) | decide | exact ⟨by decide, by decide⟩ | exact ⟨Nat.le_of_ble_eq_true rfl, allOne_of rfl⟩ | exact allOne_of rfl | exact ⟨by omega, by omega⟩ | exact ⟨by omega, by rw [lL]; omega⟩ | exact ⟨by omega, by rw [lenV]; omega⟩ | exact pL | exact pW | exact pX)
           | (apply Exists.intro; apply And.intro; · first | exact rfl)
           | fail
          all_goals try rw [hwt]
          all_goals exact iht (t + 1) htg (by show w.length - (t + 1) < w.length - t; omega)
      case neg =>
        repeat' (conv => whnf); first
         | (refine bcase_of (fun hr => ?_) (fun hr => ?_) <;> (try simp only [decide_eq_true_eq, decide_eq_false_iff_not, beq_iff_eq, beq_eq_false_iff_ne, ne_eq, bne_iff_ne, bne_eq_false_iff_eq, Bool.not_eq_true, ge_iff_le, gt_iff_lt] at hr) <;> try (exfalso; first | omega | exact hr rfl | (simp at hr; done) | (simp at hr; omega)))
         | (apply And.intro; · first | exact Nat.le_of_ble_eq_true rfl | (show indep _ _ = true; kernel_rfl) | decide | exact ⟨by decide, by decide⟩ | exact ⟨Nat.le_of_ble_eq_true rfl, allOne_of rfl⟩ | exact allOne_of rfl | exact ⟨by omega, by omega⟩ | exact ⟨by omega, by rw [lL]; omega⟩ | exact ⟨by omega, by rw [lenV]; omega⟩ | exact pL | exact pW | exact pX | exact pP)
         | (apply Exists.intro; apply And.intro; · first | exact rfl | exact c4 | exact c5 | exact c6 | exact c7 | exact c8 | exact c9 | exact wakes_ok)
         | fail
        all_goals (conv => whnf)
        all_goals first | rfl | (exfalso; omega)
end Go.Proofs.YtbppemcdphgknaaDoor
/- Chapter 13, the plain law: bounds. -/
namespace Go.Proofs.YtbppemcdphgknaaDoor
open Go Go.Vm
set_option linter.unusedSimpArgs false
set_option linter.unusedVariables false
theorem rise_count {v : Int} : ∀ {l : List En} {f : Int}, Rise l → (∀ e ∈ l, f < e.v ∧ e.v ≤ v) → f ≤ v → (l.length : Int) ≤ v - f
  | [], f, _, _, h => by simp; omega
  | e :: r, f, hr, h, hf => by
    have h' := List.pairwise_cons.1 hr
    have he := h e (by simp)
    have := rise_count (v := v) (f := e.v) h'.2 (fun x hx => ⟨h'.1 x hx, (h x (by simp [hx])).2⟩) he.2
    simp only [List.length_cons]; omega
/-- Never refused, if the floor is as many versions behind as are kept. -/
theorem put_some {m keep : Int} {l : List En} {ver : Int} {c : En} {i : Bool} {floor : Int} (ho : okP m keep l ver c i = true) (hf : ver - floor ≤ keep) (hfv : floor ≤ ver) : ∃ l', putA m keep l ver c i floor = some l' := by
  cases h : putA m keep l ver c i floor with
  | some l' => exact ⟨l', rfl⟩
  | none =>
    exfalso
    unfold putA at h
    rw [ho] at h
    simp only at h
    split at h
    · rename_i hn
      obtain ⟨g1, g2, _, g4, g5, g6⟩ := okP_iff.1 ho
      have hS := (putS_form g1 g5 g4 g6).1
      have hle := putS_le g1 g5 g4 g6
      generalize putS l ver c i = out at hS hle hn
      unfold afterP at hn
      split at hn
      · rw [prune_eq hS, List.length_append] at hn
        have h1 : (cur (lo floor out)).toList.length ≤ 1 := by cases cur (lo floor out) <;> simp
        have h2 := rise_count (v := ver) (f := floor) (l := hi floor out) ((good_rise hS).1.sublist List.filter_sublist) (fun e he => ⟨(mem_hi.1 he).2, hle e (mem_hi.1 he).1⟩) hfv
        omega
      · omega
    · cases h
/-- Is there, what was told? -/
def TeC : Option En → En
  | none => ⟨0, 0, 0, 0, 0, [], []⟩
  | some c => c
/-- Between two changes in a version. -/
structure BIn (m keep floor : Int) (v : Int) (T : List (Option En)) (now : Option En) (ch : List En) : Prop where
  good : goodL m ch = true
  le : ∀ e ∈ ch, e.v ≤ v
  ahead : ∀ a : Nat, floor ≤ (a : Int) → (a : Int) < v → ∀ t, T[a]? = some t → alikeO (atS m ch (a : Int)) t = true
  here : alikeO (atS m ch v) now = true
  inn : ChIn ch
  len : ch.length ≤ 9
theorem alikeO_put {o : Option En} {c : En} {ver op : Int} (h : o = some (newE ver op c)) : alikeO o (some c) = true := by
  rw [h]; simp [alikeO, newE]
theorem BIn.put {m keep floor v : Int} {T : List (Option En)} {now : Option En} {ch : List En} (h : BIn m keep floor v T now ch) (hk : 2 ≤ keep ∧ keep ≤ 8) (hv : 1 ≤ v) (hf : v - floor ≤ keep) (hfv : floor ≤ v) (t : Option En)
    (hc : mayC m t.isSome (TeC t).n (TeC t).a (TeC t).b (TeC t).p (TeC t).q = true) (hin : EnIn (TeC t)) :
    ∃ ch', putA m keep ch v (TeC t) t.isSome floor = some ch' ∧ (ch'.length : Int) ≤ keep + 1 ∧ BIn m keep floor v T t ch' := by
  have ho : okP m keep ch v (TeC t) t.isSome = true := okP_iff.2 ⟨h.good, hk.1, hk.2, hv, lastLe_of h.le, hc⟩
  obtain ⟨ch', hp⟩ := put_some ho hf hfv
  obtain ⟨h1, h2, h3⟩ := putA_some hp
  obtain ⟨k1, k2⟩ := put_ch hp h.inn (by have := h.len; omega) hin
  have hS := (putS_form h.good (lastLe_of h.le) hv hc).1
  refine ⟨ch', hp, h3, put_good hp, fun e he => ?_, fun a ha hav t' ht => ?_, ?_, k1, k2⟩
  · rw [h2] at he
    exact putS_le h.good (lastLe_of h.le) hv hc e (after_mem hS he)
  · rw [put_ahead hp hav ha]
    exact h.ahead a ha hav t' ht
  · have ht := put_there hp (Int.le_refl v)
    cases t with
    | none => rw [ht.2 rfl]; rfl
    | some c =>
      obtain ⟨op, ho⟩ := ht.1 rfl
      exact alikeO_put ho
theorem at_top {m v u : Int} {ch : List En} (hg : goodL m ch = true) (h : ∀ e ∈ ch, e.v ≤ v) (hu : v ≤ u) : atS m ch u = atS m ch v := by
  rw [at_eq hg, at_eq hg, lo_all h, lo_all fun e he => by have := h e he; omega]
/-- At a version's beginning. -/
structure BAt (m keep : Int) (n : Nat) (T : List (Option En)) (ch : List En) : Prop where
  good : goodL m ch = true
  le : ∀ e ∈ ch, e.v ≤ (n : Int)
  told : ∀ a : Nat, (n : Int) - keep ≤ (a : Int) → a ≤ n → ∀ t, T[a]? = some t → alikeO (atS m ch (a : Int)) t = true
  inn : ChIn ch
  len : ch.length ≤ 9
  size : T.length = n + 1
theorem BAt.start {m keep : Int} (hm : 1 ≤ m ∧ m ≤ 2) : BAt m keep 0 [none] [] :=
  ⟨good_nil hm, fun e he => (by cases he), fun a _ ha t ht => by
    obtain rfl : a = 0 := by omega
    obtain rfl : none = t := by simpa using ht
    rw [at_eq (good_nil hm)]; rfl, nil_ch, by simp, rfl⟩
theorem BAt.begin {m keep : Int} {n : Nat} {T : List (Option En)} {ch : List En} (h : BAt m keep n T ch) {now : Option En} (hn : T[n]? = some now) {floor : Int} (hf : (n : Int) + 1 - keep ≤ floor) (hk : 0 ≤ keep) : BIn m keep floor ((n : Int) + 1) T now ch where
  good := h.good
  le := fun e he => by have := h.le e he; omega
  ahead := fun a ha hav t ht => h.told a (by omega) (by omega) t ht
  here := by rw [at_top h.good h.le (by omega)]; exact h.told n (by have := h.size; omega) (Nat.le_refl _) now hn
  inn := h.inn
  len := h.len
theorem BIn.finish {m keep floor : Int} {n : Nat} {T : List (Option En)} {now : Option En} {ch : List En} (h : BIn m keep floor ((n : Int) + 1) T now ch) (hT : T.length = n + 1) (hf : floor ≤ (n : Int) + 1 - keep ∨ floor = 0) : BAt m keep (n + 1) (T ++ [now]) ch where
  good := h.good
  le := fun e he => by have := h.le e he; omega
  told := fun a ha han t ht => by
    by_cases hlt : a < n + 1
    · rw [List.getElem?_append_left (by omega)] at ht
      exact h.ahead a (by omega) (by omega) t ht
    · obtain rfl : a = n + 1 := by omega
      rw [← hT, List.getElem?_append_right (Nat.le_refl _), Nat.sub_self] at ht
      obtain rfl : now = t := by simpa using ht
      have := h.here
      rwa [show (((n + 1 : Nat) : Int)) = (n : Int) + 1 by omega]
  inn := h.inn
  len := h.len
  size := by simp [hT]
end Go.Proofs.YtbppemcdphgknaaDoor
/- Chapter 13: ChainBounds. -/
namespace Go.Proofs.YtbppemcdphgknaaDoor
open Go Go.Vm
set_option maxRecDepth 100000
set_option maxHeartbeats 40000000
set_option linter.unusedSimpArgs false
set_option linter.unusedVariables false
def encT : Option En → List V
  | none => [i64V 0, i64V 0, i64V 0, .nils, .nils, .bool false]
  | some c => [i64V c.n, i64V c.a, i64V c.b, bagV c.p, bagV c.q, .bool true]
def TR (T : List (Option En)) : List (List V) := T.map encT
def encB (cs : List Chg) : List V := [.lst 8 (cs.map encC)]
theorem lenT (T : List (Option En)) : (TR T).length = T.length := by simp [TR]
theorem pure_encT : ∀ t : Option En, ∀ v ∈ encT t, PureV v
  | none, v, hv => by
    simp only [encT, List.mem_cons, List.not_mem_nil, or_false] at hv
    rcases hv with rfl | rfl | rfl | rfl | rfl | rfl
    all_goals first | exact .int _ _ | exact .bool _ | exact .nils
  | some c, v, hv => by
    simp only [encT, List.mem_cons, List.not_mem_nil, or_false] at hv
    rcases hv with rfl | rfl | rfl | rfl | rfl | rfl
    all_goals first | exact .int _ _ | exact .bool _ | exact .lst (pure_R _)
theorem pure_T (T : List (Option En)) : PureEs (TR T) := fun e he v hv => by
  obtain ⟨t, _, rfl⟩ := List.mem_map.1 he
  exact pure_encT t v hv
theorem pure_B (bs : List (List Chg)) : PureEs (bs.map encB) := fun e he v hv => by
  obtain ⟨cs, _, rfl⟩ := List.mem_map.1 he
  rw [List.mem_singleton.1 hv]
  exact .lst (pure_C cs)
theorem getB {bs : List (List Chg)} {i : Nat} {cs : List Chg} (h : bs[i]? = some cs) : lget (bs.map encB) ((i : Int).toNat) = some [.lst 8 (cs.map encC)] := by
  rw [lget_eq, Int.toNat_natCast, List.getElem?_map, h]; rfl
theorem getT {T : List (Option En)} {i : Nat} {t : Option En} (h : T[i]? = some t) : lget (TR T) ((i : Int).toNat) = some (encT t) := by
  rw [lget_eq, Int.toNat_natCast, TR, List.getElem?_map, h]; rfl
def stB0 (m keep : Int) (bs : List (List Chg)) (T : List (Option En)) (ch : List En) (n : Nat) : St DV := mkSt 152 [(0, i64V m), (2, .lst 1 (bs.map encB)), (7, i64V keep), (8, .rsl (121, 1) 6 0 T.length), (9, chV ch), (10, i64V ((n + 1 : Nat) : Int))] [(120, .row 6 (TR T) false)] []
def stB2 (m keep fl : Int) (bs : List (List Chg)) (T : List (Option En)) (now : Option En) (ch : List En) (n j : Nat) : St DV := mkSt 152 [(0, i64V m), (2, .lst 1 (bs.map encB)), (7, i64V keep), (8, .rsl (121, 1) 6 0 T.length), (9, chV ch), (10, i64V ((n + 1 : Nat) : Int)), (11, .ref (12, 1) 0), (12, i64V fl), (13, i64V j)] [(11, .box (encT now)), (120, .row 6 (TR T) false)] []
def stB4 (m keep : Int) (bs : List (List Chg)) (T : List (Option En)) (ch : List En) (n q : Nat) : St DV := mkSt 152 [(0, i64V m), (2, .lst 1 (bs.map encB)), (7, i64V keep), (8, .rsl (121, 1) 6 0 T.length), (9, chV ch), (10, i64V ((n + 1 : Nat) : Int)), (17, i64V q)] [(120, .row 6 (TR T) false)] []
theorem takeT (T : List (Option En)) : ((TR T).drop 0).take T.length = TR T := by rw [List.drop_zero, List.take_of_length_le (by rw [lenT]; exact Nat.le_refl _)]
theorem addT (T : List (Option En)) (t : Option En) : ((TR T).drop 0).take T.length ++ ([encT t].drop 0).take 1 = TR (T ++ [t]) := by rw [takeT]; simp [TR]
theorem raT (T : List (Option En)) (h : T.length ≤ 100) : 0 + T.length ≤ (TR T).length ∧ (false = true → 0 + T.length = (TR T).length) ∧ (T.length + 1) * 80 ≤ roomBound ∧ T.length + 1 ≤ roomBound := ⟨by simp [lenT], (by intro h; cases h), by unfold roomBound; omega, by unfold roomBound; omega⟩
theorem keep7 (s : Int) (h0 : 0 ≤ s) (h : s < 256) : ∃ k : Int, IntKind.i64.wrap (2 + (IntKind.i64.wrap s).tmod 7) = k ∧ 2 ≤ k ∧ k ≤ 8 := by
  have e1 : IntKind.i64.wrap s = s := wrap64 (by omega) (by omega)
  rw [e1]
  have h1 : s.tmod 7 = s % 7 := Int.tmod_eq_emod_of_nonneg h0
  rw [h1]
  rw [wrap64 (by omega) (by omega)]
  exact ⟨_, rfl, by omega, by omega⟩
theorem bounds_ok (m s : Int) (bs : List (List Chg)) (hs : 0 ≤ s ∧ s < 256) (h6 : ∀ cs ∈ bs, ∀ x ∈ cs, En64 x.c) : PTriple Tryd.prog gv 8 [i64V m, .int .u8 s, .lst 1 (bs.map encB)] (.bool true) := by
  have pB := pure_B bs
  have lB : (bs.map encB).length = bs.length := by simp
  by_cases hg : (1 ≤ m ∧ m ≤ 2) ∧ bs.length ≤ 30
  case neg =>
    refine PTriple.of_body (C := cx) Tryd.func8 rfl (by kernel_rfl) mixed fun E hE => ?_
    repeat' (conv => whnf); first
     | (refine bcase_of (fun hr => ?_) (fun hr => ?_) <;> (try simp only [decide_eq_true_eq, decide_eq_false_iff_not, beq_iff_eq, beq_eq_false_iff_ne, ne_eq, bne_iff_ne, bne_eq_false_iff_eq, Bool.not_eq_true, ge_iff_le, gt_iff_lt] at hr) <;> try (exfalso; first | omega | exact hr rfl | (simp at hr; done) | (simp at hr; omega)))
     | (apply And.intro; · first | exact Nat.le_of_ble_eq_true rfl | (show indep _ _ = true; kernel_rfl) | decide | exact ⟨by decide, by decide⟩ | exact ⟨Nat.le_of_ble_eq_true rfl, allOne_of rfl⟩ | exact allOne_of rfl | exact ⟨by omega, by omega⟩ | exact ⟨by omega, by rw [lL]; omega⟩ | exact ⟨by omega, by rw [lenV]; omega⟩ | exact pB)
     | (apply Exists.intro; apply And.intro; · first | exact rfl | exact wakes_ok)
     | fail
    all_goals (conv => whnf)
    all_goals first | rfl | (exfalso; omega)
  case pos =>
  obtain ⟨hm, hb⟩ := hg
  refine PTriple.of_body (C := cx) Tryd.func8 rfl (by kernel_rfl) mixed fun E hE => ?_
  repeat' (conv => whnf); first
   | (refine bcase_of (fun hr => ?_) (fun hr => ?_) <;> (try simp only [decide_eq_true_eq, decide_eq_false_iff_not, beq_iff_eq, beq_eq_false_iff_ne, ne_eq, bne_iff_ne, bne_eq_false_iff_eq, Bool.not_eq_true, ge_iff_le, gt_iff_lt] at hr) <;> try (exfalso; first | omega | exact hr rfl | (simp at hr; done) | (simp at hr; omega)))
   | (apply And.intro; · first | exact Nat.le_of_ble_eq_true rfl | (show indep _ _ = true; kernel_rfl) | decide | exact ⟨by decide, by decide⟩ | exact ⟨Nat.le_of_ble_eq_true rfl, allOne_of rfl⟩ | exact allOne_of rfl | exact ⟨by omega, by omega⟩ | exact ⟨by omega, by rw [lL]; omega⟩ | exact ⟨by omega, by rw [lenV]; omega⟩ | exact pB)
   | (apply Exists.intro; apply And.intro; · first | exact rfl | exact wakes_ok)
   | fail
  all_goals (conv => whnf)
  refine VLoop.move 8 120 ?_
  conv => whnf
  refine VLoop.nilT 9 7 ?_
  conv => whnf
  refine VLoop.norm [0, 2, 7, 8, 9, 10] [120] ?_
  repeat' (conv => whnf); first
   | (refine bcase_of (fun hr => ?_) (fun hr => ?_) <;> (try simp only [decide_eq_true_eq, decide_eq_false_iff_not, beq_iff_eq, beq_eq_false_iff_ne, ne_eq, bne_iff_ne, bne_eq_false_iff_eq, Bool.not_eq_true, ge_iff_le, gt_iff_lt] at hr) <;> try (exfalso; first | omega | exact hr rfl | (simp at hr; done) | (simp at hr; omega)))
   | (apply And.intro; · first | exact Nat.le_of_ble_eq_true rfl | (show indep _ _ = true; kernel_rfl) | decide | exact ⟨by decide, by decide⟩ | exact ⟨Nat.le_of_ble_eq_true rfl, allOne_of rfl⟩ | exact allOne_of rfl | exact ⟨by omega, by omega⟩ | exact ⟨by omega, by rw [lL]; omega⟩ | exact ⟨by omega, by rw [lenV]; omega⟩ | exact pB | exact pure_T [none] | exact pure_E [])
   | (apply Exists.intro; apply And.intro; · first | exact rfl)
   | fail
  conv => whnf
  obtain ⟨keep, hkeep, hk2, hk8⟩ := keep7 s hs.1 hs.2
  rw [hkeep]
  refine VLoop.inv (fun z : List (Option En) × List En × Nat => stB0 m keep bs z.1 z.2.1 z.2.2) (fun z => z.2.2 ≤ bs.length ∧ BAt m keep z.2.2 z.1 z.2.1) (fun z => bs.length - z.2.2) ([none], [], 0) ⟨Nat.zero_le _, BAt.start hm⟩ rfl ?_
  rintro ⟨T, ch, n⟩ ⟨hn, hA⟩ ih
  simp only at hn hA ih
  show VLoop cx E _ (stB0 m keep bs T ch n) _
  have hT := hA.size
  have pT := pure_T T
  have lT := lenT T
  have pC := pure_E ch
  have hv1 : IntKind.i64.wrap (((n + 1 : Nat) : Int) - 1) = ((n : Nat) : Int) := (wrap64 (by omega) (by omega)).trans (by omega)
  have hv2 : IntKind.i64.wrap (((n + 1 : Nat) : Int) + 1) = ((n + 1 + 1 : Nat) : Int) := (wrap64 (by omega) (by omega)).trans (by omega)
  have hvf : IntKind.i64.wrap (((n + 1 : Nat) : Int) - keep) = ((n + 1 : Nat) : Int) - keep := wrap64 (by omega) (by omega)
  have hk1 : IntKind.i64.wrap (keep + 1) = keep + 1 := wrap64 (by omega) (by omega)
  refine VLoop.unroll hE mixed ?_
  by_cases hgo : n < bs.length
  case neg =>
    repeat' (conv => whnf); first
     | (refine bcase_of (fun hr => ?_) (fun hr => ?_) <;> (try simp only [decide_eq_true_eq, decide_eq_false_iff_not, beq_iff_eq, beq_eq_false_iff_ne, ne_eq, bne_iff_ne, bne_eq_false_iff_eq, Bool.not_eq_true, ge_iff_le, gt_iff_lt] at hr) <;> try (exfalso; first | omega | exact hr rfl | (simp at hr; done) | (simp at hr; omega)))
     | (apply And.intro; · first | exact Nat.le_of_ble_eq_true rfl | (show indep _ _ = true; kernel_rfl) | decide | exact ⟨by decide, by decide⟩ | exact ⟨Nat.le_of_ble_eq_true rfl, allOne_of rfl⟩ | exact allOne_of rfl | exact ⟨by omega, by omega⟩ | exact ⟨by omega, by rw [lL]; omega⟩ | exact ⟨by omega, by rw [lenV]; omega⟩ | exact pB | exact pT | exact pC)
     | (apply Exists.intro; apply And.intro; · first | exact rfl | exact wakes_ok)
     | fail
    all_goals (conv => whnf)
    all_goals first | rfl | (exfalso; omega)
  case pos =>
    obtain ⟨cs, hcs⟩ : ∃ cs, bs[n]? = some cs := ⟨_, List.getElem?_eq_getElem hgo⟩
    have gb := getB hcs
    have hc6 := h6 cs (List.mem_of_getElem? hcs)
    have pCs := pure_C cs
    have lCs := lenC cs
    obtain ⟨fl, hfl⟩ : ∃ fl, fl = (if 0 > ((n + 1 : Nat) : Int) - keep then 0 else ((n + 1 : Nat) : Int) - keep) := ⟨_, rfl⟩
    have hf0 : 0 ≤ fl := by rw [hfl]; split <;> omega
    have hf1 : (n : Int) + 1 - keep ≤ fl := by rw [hfl]; split <;> omega
    have hf2 : fl ≤ (n : Int) + 1 - keep ∨ fl = 0 := by rw [hfl]; split <;> omega
    have hf3 : fl ≤ (n : Int) + 1 := by rw [hfl]; split <;> omega
    refine cutLoops (C := cx) (E := E) (b := ?bq) (K := ?Kq) (fun z : Option En × List En × Nat => stB2 m keep (if 0 > ((n + 1 : Nat) : Int) - keep then 0 else ((n + 1 : Nat) : Int) - keep) bs T z.1 z.2.1 n z.2.2) (fun z => z.2.2 ≤ cs.length ∧ z.2.2 ≤ 5 ∧ BIn m keep fl ((n : Int) + 1) T z.1 z.2.1) (fun key => ?mm) ?ll
    case mm =>
      obtain ⟨now, hnow⟩ : ∃ now, T[n]? = some now := ⟨_, List.getElem?_eq_getElem (by omega)⟩
      have gt := getT hnow
      have hI0 := hA.begin hnow hf1 (by omega)
      cases now with
      | none =>
        replace gt : lget (TR T) ((n : Int).toNat) = some [i64V 0, i64V 0, i64V 0, .nils, .nils, .bool false] := gt
        repeat' (conv => whnf); first
         | (refine bcase_of (fun hr => ?_) (fun hr => ?_) <;> (try simp only [decide_eq_true_eq, decide_eq_false_iff_not, beq_iff_eq, beq_eq_false_iff_ne, ne_eq, bne_iff_ne, bne_eq_false_iff_eq, Bool.not_eq_true, ge_iff_le, gt_iff_lt] at hr) <;> try (exfalso; first | omega | exact hr rfl | (simp at hr; done) | (simp at hr; omega)))
         | (apply And.intro; · first | exact Nat.le_of_ble_eq_true rfl | (show indep _ _ = true; kernel_rfl) | decide | exact ⟨by decide, by decide⟩ | exact ⟨Nat.le_of_ble_eq_true rfl, allOne_of rfl⟩ | exact allOne_of rfl | exact ⟨by omega, by omega⟩ | exact ⟨by omega, by rw [lL]; omega⟩ | exact ⟨by omega, by rw [lenV]; omega⟩ | exact pB | exact pT | exact pC | exact ⟨by omega, by rw [lT]; omega⟩ | exact ⟨by rw [hv1]; omega, by rw [hv1, lT]; omega⟩ | exact pp | exact pq)
         | (apply Exists.intro; apply And.intro; · first | exact rfl | exact gt | (rw [hv1, Nat.zero_add]; exact gt) | (rw [hv1]; exact gb) | exact gb)
         | fail
        all_goals (conv => whnf)
        all_goals refine VLoop.norm [0, 2, 7, 8, 9, 10, 11, 12, 13] [11, 120] ?_
        repeat' (conv => whnf); first
         | (refine bcase_of (fun hr => ?_) (fun hr => ?_) <;> (try simp only [decide_eq_true_eq, decide_eq_false_iff_not, beq_iff_eq, beq_eq_false_iff_ne, ne_eq, bne_iff_ne, bne_eq_false_iff_eq, Bool.not_eq_true, ge_iff_le, gt_iff_lt] at hr) <;> try (exfalso; first | omega | exact hr rfl | (simp at hr; done) | (simp at hr; omega)))
         | (apply And.intro; · first | exact Nat.le_of_ble_eq_true rfl | (show indep _ _ = true; kernel_rfl) | decide | exact ⟨by decide, by decide⟩ | exact ⟨Nat.le_of_ble_eq_true rfl, allOne_of rfl⟩ | exact allOne_of rfl | exact ⟨by omega, by omega⟩ | exact ⟨by omega, by rw [lL]; omega⟩ | exact ⟨by omega, by rw [lenV]; omega⟩ | exact pB | exact pT | exact pC | exact pp | exact pq | exact pure_encT _)
         | (apply Exists.intro; apply And.intro; · first | exact rfl)
         | fail
        all_goals (conv => whnf)
        all_goals rw [hvf]
        all_goals refine key (none, ch, 0) ?_
        all_goals exact ⟨Nat.zero_le _, by show 0 ≤ 5; omega, hI0⟩
      | some c =>
        replace gt : lget (TR T) ((n : Int).toNat) = some [i64V c.n, i64V c.a, i64V c.b, bagV c.p, bagV c.q, .bool true] := gt
        have pp := pure_R c.p
        have pq := pure_R c.q
        repeat' (conv => whnf); first
         | (refine bcase_of (fun hr => ?_) (fun hr => ?_) <;> (try simp only [decide_eq_true_eq, decide_eq_false_iff_not, beq_iff_eq, beq_eq_false_iff_ne, ne_eq, bne_iff_ne, bne_eq_false_iff_eq, Bool.not_eq_true, ge_iff_le, gt_iff_lt] at hr) <;> try (exfalso; first | omega | exact hr rfl | (simp at hr; done) | (simp at hr; omega)))
         | (apply And.intro; · first | exact Nat.le_of_ble_eq_true rfl | (show indep _ _ = true; kernel_rfl) | decide | exact ⟨by decide, by decide⟩ | exact ⟨Nat.le_of_ble_eq_true rfl, allOne_of rfl⟩ | exact allOne_of rfl | exact ⟨by omega, by omega⟩ | exact ⟨by omega, by rw [lL]; omega⟩ | exact ⟨by omega, by rw [lenV]; omega⟩ | exact pB | exact pT | exact pC | exact ⟨by omega, by rw [lT]; omega⟩ | exact ⟨by rw [hv1]; omega, by rw [hv1, lT]; omega⟩ | exact pp | exact pq)
         | (apply Exists.intro; apply And.intro; · first | exact rfl | exact gt | (rw [hv1, Nat.zero_add]; exact gt) | (rw [hv1]; exact gb) | exact gb)
         | fail
        all_goals (conv => whnf)
        all_goals refine VLoop.norm [0, 2, 7, 8, 9, 10, 11, 12, 13] [11, 120] ?_
        repeat' (conv => whnf); first
         | (refine bcase_of (fun hr => ?_) (fun hr => ?_) <;> (try simp only [decide_eq_true_eq, decide_eq_false_iff_not, beq_iff_eq, beq_eq_false_iff_ne, ne_eq, bne_iff_ne, bne_eq_false_iff_eq, Bool.not_eq_true, ge_iff_le, gt_iff_lt] at hr) <;> try (exfalso; first | omega | exact hr rfl | (simp at hr; done) | (simp at hr; omega)))
         | (apply And.intro; · first | exact Nat.le_of_ble_eq_true rfl | (show indep _ _ = true; kernel_rfl) | decide | exact ⟨by decide, by decide⟩ | exact ⟨Nat.le_of_ble_eq_true rfl, allOne_of rfl⟩ | exact allOne_of rfl | exact ⟨by omega, by omega⟩ | exact ⟨by omega, by rw [lL]; omega⟩ | exact ⟨by omega, by rw [lenV]; omega⟩ | exact pB | exact pT | exact pC | exact pp | exact pq | exact pure_encT _)
         | (apply Exists.intro; apply And.intro; · first | exact rfl)
         | fail
        all_goals (conv => whnf)
        all_goals rw [hvf]
        all_goals refine key (some c, ch, 0) ?_
        all_goals exact ⟨Nat.zero_le _, by show 0 ≤ 5; omega, hI0⟩
    case ll =>
      rintro ⟨now, ch, j⟩ ⟨hj, hj5, hI⟩
      simp only at hj hj5 hI
      show VLoop cx E _ (stB2 m keep (if 0 > ((n + 1 : Nat) : Int) - keep then 0 else ((n + 1 : Nat) : Int) - keep) bs T now ch n j) _
      rw [← hfl]
      refine VLoop.inv (fun z : Option En × List En × Nat => stB2 m keep fl bs T z.1 z.2.1 n z.2.2) (fun z => z.2.2 ≤ cs.length ∧ z.2.2 ≤ 5 ∧ BIn m keep fl ((n : Int) + 1) T z.1 z.2.1) (fun z => cs.length - z.2.2) (now, ch, j) ⟨hj, hj5, hI⟩ rfl ?_
      rintro ⟨now, ch, j⟩ ⟨hj, hj5, hI⟩ ihj
      simp only at hj hj5 hI ihj
      show VLoop cx E _ (stB2 m keep fl bs T now ch n j) _
      have pC := pure_E ch
      have lC := lenE ch
      have hwj : IntKind.i64.wrap ((j : Int) + 1) = ((j + 1 : Nat) : Int) := wrap64 (by omega) (by omega)
      refine VLoop.unroll hE mixed ?_
      by_cases hjg : j < cs.length ∧ j < 5
      case pos =>
        obtain ⟨hjg, hjg5⟩ := hjg
        obtain ⟨⟨xv, xf, xc, xi⟩, hx⟩ : ∃ x, cs[j]? = some x := ⟨_, List.getElem?_eq_getElem hjg⟩
        have gx : lget (cs.map encC) ((j : Int).toNat) = some [i64V xv, i64V xf, i64V xc.n, i64V xc.a, i64V xc.b, bagV xc.p, bagV xc.q, .bool xi] := getC hx
        have hx6 : En64 xc := hc6 _ (List.mem_of_getElem? hx)
        have px := pure_R xc.p
        have qx := pure_R xc.q
        have c2 := lightB_ok xc.n xc.a xc.b xc.p xc.q
        cases h2 : lightB xc.p xc.q with
        | false =>
          rw [h2] at c2
          cases now
          all_goals skip
          repeat' (conv => whnf); first
           | (refine bcase_of (fun hr => ?_) (fun hr => ?_) <;> (try simp only [decide_eq_true_eq, decide_eq_false_iff_not, beq_iff_eq, beq_eq_false_iff_ne, ne_eq, bne_iff_ne, bne_eq_false_iff_eq, Bool.not_eq_true, ge_iff_le, gt_iff_lt] at hr) <;> try (exfalso; first | omega | exact hr rfl | (simp at hr; done) | (simp at hr; omega)))
           | (apply And.intro; · first | exact Nat.le_of_ble_eq_true rfl | (show indep _ _ = true; kernel_rfl) | decide | exact ⟨by decide, by decide⟩ | exact ⟨Nat.le_of_ble_eq_true rfl, allOne_of rfl⟩ | exact allOne_of rfl | exact ⟨by omega, by omega⟩ | exact ⟨by omega, by rw [lL]; omega⟩ | exact ⟨by omega, by rw [lenV]; omega⟩ | exact pB | exact pT | exact pC | exact pCs | exact px | exact qx | exact ⟨by omega, by rw [lT]; omega⟩ | exact ⟨by rw [hv1]; omega, by rw [hv1, lB]; omega⟩ | exact ⟨by omega, by rw [lCs]; omega⟩ | exact pure_R _)
           | (apply Exists.intro; apply And.intro; · first | exact rfl | exact c2 | exact wakes_ok | exact gx | (rw [hv1]; exact gb) | exact gb)
           | fail
          all_goals (conv => whnf)
          all_goals rfl
        | true =>
          rw [h2] at c2
          have hxin := in_of_light h2 hx6
          have c3 := cellGood9_ok m xc.n xc.a xc.b xc.p xc.q hxin.lp hxin.lq hxin.rp hxin.rq hxin.a64 hxin.b64
          have hput := fun t => hI.put (t := t) ⟨hk2, hk8⟩ (by omega) (by omega) hf3
          by_cases hgx : xi = true ∧ goodC m xc.n xc.a xc.b xc.p xc.q = true
          case pos =>
            obtain ⟨hxi, hgx⟩ := hgx
            subst hxi
            rw [hgx] at c3
            obtain ⟨ch', hp, hle', hI'⟩ := hput (some xc) hgx hxin
            have c4 := Put_ok m keep ((n : Int) + 1) fl ch xc true hI.inn (by have := hI.len; omega) hxin
            rw [show putA m keep ch ((n : Int) + 1) xc true fl = some ch' from hp] at c4
            rw [show ((n : Int) + 1) = ((n + 1 : Nat) : Int) by omega] at c4
            have pC' := pure_E ch'
            have lC' := lenE ch'
            cases now
            all_goals skip
            repeat' (conv => whnf); first
             | (refine bcase_of (fun hr => ?_) (fun hr => ?_) <;> (try simp only [decide_eq_true_eq, decide_eq_false_iff_not, beq_iff_eq, beq_eq_false_iff_ne, ne_eq, bne_iff_ne, bne_eq_false_iff_eq, Bool.not_eq_true, ge_iff_le, gt_iff_lt] at hr) <;> try (exfalso; first | omega | exact hr rfl | (simp at hr; done) | (simp at hr; omega)))
             | (apply And.intro; · first | exact Nat.le_of_ble_eq_true rfl | (show indep _ _ = true; kernel_rfl) | decide | exact ⟨by decide, by decide⟩ | exact ⟨Nat.le_of_ble_eq_true rfl, allOne_of rfl⟩ | exact allOne_of rfl | exact ⟨by omega, by omega⟩ | exact ⟨by omega, by rw [lL]; omega⟩ | exact ⟨by omega, by rw [lenV]; omega⟩ | exact pB | exact pT | exact pC | exact pCs | exact px | exact qx | exact ⟨by omega, by rw [lT]; omega⟩ | exact ⟨by rw [hv1]; omega, by rw [hv1, lB]; omega⟩ | exact ⟨by omega, by rw [lCs]; omega⟩ | exact pure_R _ | exact pC')
             | (apply Exists.intro; apply And.intro; · first | exact rfl | exact c2 | exact c3 | exact c4 | exact gx | (rw [hv1]; exact gb) | exact gb)
             | rw [hwj]
             | rw [hk1]
             | fail
            all_goals (conv => whnf)
            all_goals refine VLoop.norm [0, 2, 7, 8, 9, 10, 11, 12, 13] [11, 120] ?_
            repeat' (conv => whnf); first
             | (refine bcase_of (fun hr => ?_) (fun hr => ?_) <;> (try simp only [decide_eq_true_eq, decide_eq_false_iff_not, beq_iff_eq, beq_eq_false_iff_ne, ne_eq, bne_iff_ne, bne_eq_false_iff_eq, Bool.not_eq_true, ge_iff_le, gt_iff_lt] at hr) <;> try (exfalso; first | omega | exact hr rfl | (simp at hr; done) | (simp at hr; omega)))
             | (apply And.intro; · first | exact Nat.le_of_ble_eq_true rfl | (show indep _ _ = true; kernel_rfl) | decide | exact ⟨by decide, by decide⟩ | exact ⟨Nat.le_of_ble_eq_true rfl, allOne_of rfl⟩ | exact allOne_of rfl | exact ⟨by omega, by omega⟩ | exact ⟨by omega, by rw [lL]; omega⟩ | exact ⟨by omega, by rw [lenV]; omega⟩ | exact pB | exact pT | exact pC | exact pCs | exact px | exact qx | exact ⟨by omega, by rw [lT]; omega⟩ | exact ⟨by rw [hv1]; omega, by rw [hv1, lB]; omega⟩ | exact ⟨by omega, by rw [lCs]; omega⟩ | exact pure_R _ | exact pC' | exact pure_encT _)
             | (apply Exists.intro; apply And.intro; · first | exact rfl)
             | fail
            all_goals (conv => whnf)
            all_goals try rw [hwj]
            all_goals exact ihj (some xc, ch', j + 1) ⟨hjg, hjg5, hI'⟩ (by show cs.length - (j + 1) < cs.length - j; omega)
          case neg =>
            obtain ⟨ch', hp, hle', hI'⟩ := hput none rfl zero_in
            have c4 := (Put_ok m keep ((n : Int) + 1) fl ch ⟨0, 0, 0, 0, 0, [], []⟩ false hI.inn (by have := hI.len; omega) zero_in).zarg (.same (.same (.same (.same (.zero (.same (.same .nil)))))))
            rw [show putA m keep ch ((n : Int) + 1) ⟨0, 0, 0, 0, 0, [], []⟩ false fl = some ch' from hp] at c4
            rw [show ((n : Int) + 1) = ((n + 1 : Nat) : Int) by omega] at c4
            have pC' := pure_E ch'
            have lC' := lenE ch'
            cases xi with
            | false =>
              cases now
              all_goals skip
              repeat' (conv => whnf); first
               | (refine bcase_of (fun hr => ?_) (fun hr => ?_) <;> (try simp only [decide_eq_true_eq, decide_eq_false_iff_not, beq_iff_eq, beq_eq_false_iff_ne, ne_eq, bne_iff_ne, bne_eq_false_iff_eq, Bool.not_eq_true, ge_iff_le, gt_iff_lt] at hr) <;> try (exfalso; first | omega | exact hr rfl | (simp at hr; done) | (simp at hr; omega)))
               | (apply And.intro; · first | exact Nat.le_of_ble_eq_true rfl | (show indep _ _ = true; kernel_rfl) | decide | exact ⟨by decide, by decide⟩ | exact ⟨Nat.le_of_ble_eq_true rfl, allOne_of rfl⟩ | exact allOne_of rfl | exact ⟨by omega, by omega⟩ | exact ⟨by omega, by rw [lL]; omega⟩ | exact ⟨by omega, by rw [lenV]; omega⟩ | exact pB | exact pT | exact pC | exact pCs | exact px | exact qx | exact ⟨by omega, by rw [lT]; omega⟩ | exact ⟨by rw [hv1]; omega, by rw [hv1, lB]; omega⟩ | exact ⟨by omega, by rw [lCs]; omega⟩ | exact pure_R _ | exact pC')
               | (apply Exists.intro; apply And.intro; · first | exact rfl | exact c2 | exact c3 | exact c4 | exact gx | (rw [hv1]; exact gb) | exact gb)
               | rw [hwj]
               | rw [hk1]
               | fail
              all_goals (conv => whnf)
              all_goals refine VLoop.norm [0, 2, 7, 8, 9, 10, 11, 12, 13] [11, 120] ?_
              repeat' (conv => whnf); first
               | (refine bcase_of (fun hr => ?_) (fun hr => ?_) <;> (try simp only [decide_eq_true_eq, decide_eq_false_iff_not, beq_iff_eq, beq_eq_false_iff_ne, ne_eq, bne_iff_ne, bne_eq_false_iff_eq, Bool.not_eq_true, ge_iff_le, gt_iff_lt] at hr) <;> try (exfalso; first | omega | exact hr rfl | (simp at hr; done) | (simp at hr; omega)))
               | (apply And.intro; · first | exact Nat.le_of_ble_eq_true rfl | (show indep _ _ = true; kernel_rfl) | decide | exact ⟨by decide, by decide⟩ | exact ⟨Nat.le_of_ble_eq_true rfl, allOne_of rfl⟩ | exact allOne_of rfl | exact ⟨by omega, by omega⟩ | exact ⟨by omega, by rw [lL]; omega⟩ | exact ⟨by omega, by rw [lenV]; omega⟩ | exact pB | exact pT | exact pC | exact pCs | exact px | exact qx | exact ⟨by omega, by rw [lT]; omega⟩ | exact ⟨by rw [hv1]; omega, by rw [hv1, lB]; omega⟩ | exact ⟨by omega, by rw [lCs]; omega⟩ | exact pure_R _ | exact pC' | exact pure_encT _)
               | (apply Exists.intro; apply And.intro; · first | exact rfl)
               | fail
              all_goals (conv => whnf)
              all_goals try rw [hwj]
              all_goals exact ihj (none, ch', j + 1) ⟨hjg, hjg5, hI'⟩ (by show cs.length - (j + 1) < cs.length - j; omega)
            | true =>
              have hgf : goodC m xc.n xc.a xc.b xc.p xc.q = false := by
                cases hh : goodC m xc.n xc.a xc.b xc.p xc.q with
                | false => rfl
                | true => exact absurd ⟨rfl, hh⟩ hgx
              rw [hgf] at c3
              cases now
              all_goals skip
              repeat' (conv => whnf); first
               | (refine bcase_of (fun hr => ?_) (fun hr => ?_) <;> (try simp only [decide_eq_true_eq, decide_eq_false_iff_not, beq_iff_eq, beq_eq_false_iff_ne, ne_eq, bne_iff_ne, bne_eq_false_iff_eq, Bool.not_eq_true, ge_iff_le, gt_iff_lt] at hr) <;> try (exfalso; first | omega | exact hr rfl | (simp at hr; done) | (simp at hr; omega)))
               | (apply And.intro; · first | exact Nat.le_of_ble_eq_true rfl | (show indep _ _ = true; kernel_rfl) | decide | exact ⟨by decide, by decide⟩ | exact ⟨Nat.le_of_ble_eq_true rfl, allOne_of rfl⟩ | exact allOne_of rfl | exact ⟨by omega, by omega⟩ | exact ⟨by omega, by rw [lL]; omega⟩ | exact ⟨by omega, by rw [lenV]; omega⟩ | exact pB | exact pT | exact pC | exact pCs | exact px | exact qx | exact ⟨by omega, by rw [lT]; omega⟩ | exact ⟨by rw [hv1]; omega, by rw [hv1, lB]; omega⟩ | exact ⟨by omega, by rw [lCs]; omega⟩ | exact pure_R _ | exact pC')
               | (apply Exists.intro; apply And.intro; · first | exact rfl | exact c2 | exact c3 | exact c4 | exact gx | (rw [hv1]; exact gb) | exact gb)
               | rw [hwj]
               | rw [hk1]
               | fail
              all_goals (conv => whnf)
              all_goals refine VLoop.norm [0, 2, 7, 8, 9, 10, 11, 12, 13] [11, 120] ?_
              repeat' (conv => whnf); first
               | (refine bcase_of (fun hr => ?_) (fun hr => ?_) <;> (try simp only [decide_eq_true_eq, decide_eq_false_iff_not, beq_iff_eq, beq_eq_false_iff_ne, ne_eq, bne_iff_ne, bne_eq_false_iff_eq, Bool.not_eq_true, ge_iff_le, gt_iff_lt] at hr) <;> try (exfalso; first | omega | exact hr rfl | (simp at hr; done) | (simp at hr; omega)))
               | (apply And.intro; · first | exact Nat.le_of_ble_eq_true rfl | (show indep _ _ = true; kernel_rfl) | decide | exact ⟨by decide, by decide⟩ | exact ⟨Nat.le_of_ble_eq_true rfl, allOne_of rfl⟩ | exact allOne_of rfl | exact ⟨by omega, by omega⟩ | exact ⟨by omega, by rw [lL]; omega⟩ | exact ⟨by omega, by rw [lenV]; omega⟩ | exact pB | exact pT | exact pC | exact pCs | exact px | exact qx | exact ⟨by omega, by rw [lT]; omega⟩ | exact ⟨by rw [hv1]; omega, by rw [hv1, lB]; omega⟩ | exact ⟨by omega, by rw [lCs]; omega⟩ | exact pure_R _ | exact pC' | exact pure_encT _)
               | (apply Exists.intro; apply And.intro; · first | exact rfl)
               | fail
              all_goals (conv => whnf)
              all_goals try rw [hwj]
              all_goals exact ihj (none, ch', j + 1) ⟨hjg, hjg5, hI'⟩ (by show cs.length - (j + 1) < cs.length - j; omega)
      case neg =>
        have hF := hI.finish hT hf2
        have pT2 := pure_T (T ++ [now])
        have lT2 := lenT (T ++ [now])
        have hT2 : (T ++ [now]).length = n + 1 + 1 := hF.size
        have hfq : fl = ((fl.toNat : Nat) : Int) := by omega
        cases now with
        | none =>
          have hrow : ((TR T).drop 0).take T.length ++ ([[i64V 0, i64V 0, i64V 0, .nils, .nils, .bool false]].drop 0).take 1 = TR (T ++ [none]) := addT T (none)
          repeat' (conv => whnf); first
           | (refine bcase_of (fun hr => ?_) (fun hr => ?_) <;> (try simp only [decide_eq_true_eq, decide_eq_false_iff_not, beq_iff_eq, beq_eq_false_iff_ne, ne_eq, bne_iff_ne, bne_eq_false_iff_eq, Bool.not_eq_true, ge_iff_le, gt_iff_lt] at hr) <;> try (exfalso; first | omega | exact hr rfl | (simp at hr; done) | (simp at hr; omega)))
           | (apply And.intro; · first | exact Nat.le_of_ble_eq_true rfl | (show indep _ _ = true; kernel_rfl) | decide | exact ⟨by decide, by decide⟩ | exact ⟨Nat.le_of_ble_eq_true rfl, allOne_of rfl⟩ | exact allOne_of rfl | exact ⟨by omega, by omega⟩ | exact ⟨by omega, by rw [lL]; omega⟩ | exact ⟨by omega, by rw [lenV]; omega⟩ | exact pB | exact pT | exact pC | exact pCs | exact px | exact qx | exact ⟨by omega, by rw [lT]; omega⟩ | exact ⟨by rw [hv1]; omega, by rw [hv1, lB]; omega⟩ | exact ⟨by omega, by rw [lCs]; omega⟩ | exact pure_R _ | exact pp | exact pq | exact raT T (by omega))
           | (apply Exists.intro; apply And.intro; · first | exact rfl | exact gx | (rw [hv1]; exact gb) | exact gb)
           | fail
          all_goals (conv => whnf)
          all_goals refine VLoop.norm [0, 2, 7, 8, 9, 10, 17] [120] ?_
          repeat' (conv => whnf); first
           | (refine bcase_of (fun hr => ?_) (fun hr => ?_) <;> (try simp only [decide_eq_true_eq, decide_eq_false_iff_not, beq_iff_eq, beq_eq_false_iff_ne, ne_eq, bne_iff_ne, bne_eq_false_iff_eq, Bool.not_eq_true, ge_iff_le, gt_iff_lt] at hr) <;> try (exfalso; first | omega | exact hr rfl | (simp at hr; done) | (simp at hr; omega)))
           | (apply And.intro; · first | exact Nat.le_of_ble_eq_true rfl | (show indep _ _ = true; kernel_rfl) | decide | exact ⟨by decide, by decide⟩ | exact ⟨Nat.le_of_ble_eq_true rfl, allOne_of rfl⟩ | exact allOne_of rfl | exact ⟨by omega, by omega⟩ | exact ⟨by omega, by rw [lL]; omega⟩ | exact ⟨by omega, by rw [lenV]; omega⟩ | exact pB | exact pT | exact pC | exact pCs | exact pp | exact pq | exact pT2 | (rw [hrow]; exact pT2) | exact pure_encT _ | exact ⟨by omega, by rw [lT2]; omega⟩ | exact pe | exact qe | exact px | exact qx | exact pure_R [])
           | (apply Exists.intro; apply And.intro; · first | exact rfl)
           | fail
          all_goals (conv => whnf)
          all_goals
            rw [hrow, show T.length + (List.take 1 (List.drop 0 [[i64V 0, i64V 0, i64V 0, .nils, .nils, .bool false]])).length = (T ++ [none]).length by simp, hfq]
            refine VLoop.inv (fun q : Nat => stB4 m keep bs (T ++ [none]) ch n q) (fun q => fl.toNat ≤ q ∧ q ≤ n + 2) (fun q => n + 2 - q) fl.toNat ⟨Nat.le_refl _, by omega⟩ rfl ?_
            rintro q ⟨hq1, hq2⟩ ihq
            simp only at ihq
            show VLoop cx E _ (stB4 m keep bs (T ++ [none]) ch n q) _
            have hwq : IntKind.i64.wrap ((q : Int) + 1) = ((q + 1 : Nat) : Int) := wrap64 (by omega) (by omega)
            refine VLoop.unroll hE mixed ?_
            by_cases hqg : q ≤ n + 1
            case neg =>
              repeat' (conv => whnf); first
               | (refine bcase_of (fun hr => ?_) (fun hr => ?_) <;> (try simp only [decide_eq_true_eq, decide_eq_false_iff_not, beq_iff_eq, beq_eq_false_iff_ne, ne_eq, bne_iff_ne, bne_eq_false_iff_eq, Bool.not_eq_true, ge_iff_le, gt_iff_lt] at hr) <;> try (exfalso; first | omega | exact hr rfl | (simp at hr; done) | (simp at hr; omega)))
               | (apply And.intro; · first | exact Nat.le_of_ble_eq_true rfl | (show indep _ _ = true; kernel_rfl) | decide | exact ⟨by decide, by decide⟩ | exact ⟨Nat.le_of_ble_eq_true rfl, allOne_of rfl⟩ | exact allOne_of rfl | exact ⟨by omega, by omega⟩ | exact ⟨by omega, by rw [lL]; omega⟩ | exact ⟨by omega, by rw [lenV]; omega⟩ | exact pB | exact pT | exact pC | exact pCs | exact pp | exact pq | exact pT2 | (rw [hrow]; exact pT2) | exact pure_encT _ | exact ⟨by omega, by rw [lT2]; omega⟩ | exact pe | exact qe | exact px | exact qx | exact pure_R [])
               | (apply Exists.intro; apply And.intro; · first | exact rfl)
               | fail
              all_goals (conv => whnf)
              all_goals refine VLoop.norm [0, 2, 7, 8, 9, 10] [120] ?_
              repeat' (conv => whnf); first
               | (refine bcase_of (fun hr => ?_) (fun hr => ?_) <;> (try simp only [decide_eq_true_eq, decide_eq_false_iff_not, beq_iff_eq, beq_eq_false_iff_ne, ne_eq, bne_iff_ne, bne_eq_false_iff_eq, Bool.not_eq_true, ge_iff_le, gt_iff_lt] at hr) <;> try (exfalso; first | omega | exact hr rfl | (simp at hr; done) | (simp at hr; omega)))
               | (apply And.intro; · first | exact Nat.le_of_ble_eq_true rfl | (show indep _ _ = true; kernel_rfl) | decide | exact ⟨by decide, by decide⟩ | exact ⟨Nat.le_of_ble_eq_true rfl, allOne_of rfl⟩ | exact allOne_of rfl | exact ⟨by omega, by omega⟩ | exact ⟨by omega, by rw [lL]; omega⟩ | exact ⟨by omega, by rw [lenV]; omega⟩ | exact pB | exact pT | exact pC | exact pCs | exact pp | exact pq | exact pT2 | (rw [hrow]; exact pT2) | exact pure_encT _ | exact ⟨by omega, by rw [lT2]; omega⟩ | exact pe | exact qe | exact px | exact qx | exact pure_R [])
               | (apply Exists.intro; apply And.intro; · first | exact rfl)
               | fail
              all_goals (conv => whnf)
              all_goals try rw [hv2]
              all_goals exact ih (T ++ [none], ch, n + 1) ⟨hgo, hF⟩ (by show bs.length - (n + 1) < bs.length - n; omega)
            case pos =>
              obtain ⟨t, ht⟩ : ∃ t, (T ++ [none])[q]? = some t := ⟨_, List.getElem?_eq_getElem (by omega)⟩
              have gq := getT ht
              have hat := hF.told q (by omega) (by omega) t ht
              have d1 := At_ok m ch q hI.inn
              cases ho : atS m ch q with
              | none =>
                rw [ho] at hat d1
                cases t with
                | some x => cases hat
                | none =>
                  have d2 := (cellSame_ok 0 0 0 0 0 0 [] [] [] [] (by decide) (by decide) (by decide) (by decide)).zarg (args' := [cellV 0 0 0 [] [], zV]) (.same (.zero .nil))
                  rw [decide_eq_true (by simp)] at d2
                  replace gq : lget (TR (T ++ [none])) ((q : Int).toNat) = some [i64V 0, i64V 0, i64V 0, .nils, .nils, .bool false] := gq
                  repeat' (conv => whnf); first
                   | (refine bcase_of (fun hr => ?_) (fun hr => ?_) <;> (try simp only [decide_eq_true_eq, decide_eq_false_iff_not, beq_iff_eq, beq_eq_false_iff_ne, ne_eq, bne_iff_ne, bne_eq_false_iff_eq, Bool.not_eq_true, ge_iff_le, gt_iff_lt] at hr) <;> try (exfalso; first | omega | exact hr rfl | (simp at hr; done) | (simp at hr; omega)))
                   | (apply And.intro; · first | exact Nat.le_of_ble_eq_true rfl | (show indep _ _ = true; kernel_rfl) | decide | exact ⟨by decide, by decide⟩ | exact ⟨Nat.le_of_ble_eq_true rfl, allOne_of rfl⟩ | exact allOne_of rfl | exact ⟨by omega, by omega⟩ | exact ⟨by omega, by rw [lL]; omega⟩ | exact ⟨by omega, by rw [lenV]; omega⟩ | exact pB | exact pT | exact pC | exact pCs | exact pp | exact pq | exact pT2 | (rw [hrow]; exact pT2) | exact pure_encT _ | exact ⟨by omega, by rw [lT2]; omega⟩ | exact pe | exact qe | exact px | exact qx | exact pure_R [])
                   | (apply Exists.intro; apply And.intro; · first | exact rfl | exact d1 | exact d2 | exact gq | (rw [Nat.zero_add]; exact gq))
                   | rw [hwq]
                   | fail
                  all_goals (conv => whnf)
                  all_goals refine VLoop.norm [0, 2, 7, 8, 9, 10, 17] [120] ?_
                  repeat' (conv => whnf); first
                   | (refine bcase_of (fun hr => ?_) (fun hr => ?_) <;> (try simp only [decide_eq_true_eq, decide_eq_false_iff_not, beq_iff_eq, beq_eq_false_iff_ne, ne_eq, bne_iff_ne, bne_eq_false_iff_eq, Bool.not_eq_true, ge_iff_le, gt_iff_lt] at hr) <;> try (exfalso; first | omega | exact hr rfl | (simp at hr; done) | (simp at hr; omega)))
                   | (apply And.intro; · first | exact Nat.le_of_ble_eq_true rfl | (show indep _ _ = true; kernel_rfl) | decide | exact ⟨by decide, by decide⟩ | exact ⟨Nat.le_of_ble_eq_true rfl, allOne_of rfl⟩ | exact allOne_of rfl | exact ⟨by omega, by omega⟩ | exact ⟨by omega, by rw [lL]; omega⟩ | exact ⟨by omega, by rw [lenV]; omega⟩ | exact pB | exact pT | exact pC | exact pCs | exact pp | exact pq | exact pT2 | (rw [hrow]; exact pT2) | exact pure_encT _ | exact ⟨by omega, by rw [lT2]; omega⟩ | exact pe | exact qe | exact px | exact qx | exact pure_R [])
                   | (apply Exists.intro; apply And.intro; · first | exact rfl)
                   | fail
                  all_goals (conv => whnf)
                  all_goals try rw [hwq]
                  all_goals exact ihq (q + 1) ⟨by omega, by omega⟩ (by omega)
              | some e =>
                rw [ho] at hat d1
                cases t with
                | none => cases hat
                | some x =>
                  have he := at_in hI.inn ho
                  have pe := pure_R e.p
                  have qe := pure_R e.q
                  have px := pure_R x.p
                  have qx := pure_R x.q
                  have hxl : x.p.length ≤ 100000 ∧ x.q.length ≤ 100000 := by
                    simp only [alikeO, decide_eq_true_eq] at hat
                    rw [← hat.2.2.2.1, ← hat.2.2.2.2]; exact ⟨he.lp, he.lq⟩
                  have d2 := cellSame_ok e.n e.a e.b x.n x.a x.b e.p e.q x.p x.q he.lp he.lq hxl.1 hxl.2
                  rw [show decide (e.n = x.n ∧ e.a = x.a ∧ e.b = x.b ∧ e.p = x.p ∧ e.q = x.q) = true from hat] at d2
                  replace gq : lget (TR (T ++ [none])) ((q : Int).toNat) = some [i64V x.n, i64V x.a, i64V x.b, bagV x.p, bagV x.q, .bool true] := gq
                  repeat' (conv => whnf); first
                   | (refine bcase_of (fun hr => ?_) (fun hr => ?_) <;> (try simp only [decide_eq_true_eq, decide_eq_false_iff_not, beq_iff_eq, beq_eq_false_iff_ne, ne_eq, bne_iff_ne, bne_eq_false_iff_eq, Bool.not_eq_true, ge_iff_le, gt_iff_lt] at hr) <;> try (exfalso; first | omega | exact hr rfl | (simp at hr; done) | (simp at hr; omega)))
                   | (apply And.intro; · first | exact Nat.le_of_ble_eq_true rfl | (show indep _ _ = true; kernel_rfl) | decide | exact ⟨by decide, by decide⟩ | exact ⟨Nat.le_of_ble_eq_true rfl, allOne_of rfl⟩ | exact allOne_of rfl | exact ⟨by omega, by omega⟩ | exact ⟨by omega, by rw [lL]; omega⟩ | exact ⟨by omega, by rw [lenV]; omega⟩ | exact pB | exact pT | exact pC | exact pCs | exact pp | exact pq | exact pT2 | (rw [hrow]; exact pT2) | exact pure_encT _ | exact ⟨by omega, by rw [lT2]; omega⟩ | exact pe | exact qe | exact px | exact qx | exact pure_R [])
                   | (apply Exists.intro; apply And.intro; · first | exact rfl | exact d1 | exact d2 | exact gq | (rw [Nat.zero_add]; exact gq))
                   | rw [hwq]
                   | fail
                  all_goals (conv => whnf)
                  all_goals refine VLoop.norm [0, 2, 7, 8, 9, 10, 17] [120] ?_
                  repeat' (conv => whnf); first
                   | (refine bcase_of (fun hr => ?_) (fun hr => ?_) <;> (try simp only [decide_eq_true_eq, decide_eq_false_iff_not, beq_iff_eq, beq_eq_false_iff_ne, ne_eq, bne_iff_ne, bne_eq_false_iff_eq, Bool.not_eq_true, ge_iff_le, gt_iff_lt] at hr) <;> try (exfalso; first | omega | exact hr rfl | (simp at hr; done) | (simp at hr; omega)))
                   | (apply And.intro; · first | exact Nat.le_of_ble_eq_true rfl | (show indep _ _ = true; kernel_rfl) | decide | exact ⟨by decide, by decide⟩ | exact ⟨Nat.le_of_ble_eq_true rfl, allOne_of rfl⟩ | exact allOne_of rfl | exact ⟨by omega, by omega⟩ | exact ⟨by omega, by rw [lL]; omega⟩ | exact ⟨by omega, by rw [lenV]; omega⟩ | exact pB | exact pT | exact pC | exact pCs | exact pp | exact pq | exact pT2 | (rw [hrow]; exact pT2) | exact pure_encT _ | exact ⟨by omega, by rw [lT2]; omega⟩ | exact pe | exact qe | exact px | exact qx | exact pure_R [])
                   | (apply Exists.intro; apply And.intro; · first | exact rfl)
                   | fail
                  all_goals (conv => whnf)
                  all_goals try rw [hwq]
                  all_goals exact ihq (q + 1) ⟨by omega, by omega⟩ (by omega)
        | some c =>
          have pp := pure_R c.p
          have pq := pure_R c.q
          have hrow : ((TR T).drop 0).take T.length ++ ([[i64V c.n, i64V c.a, i64V c.b, bagV c.p, bagV c.q, .bool true]].drop 0).take 1 = TR (T ++ [some c]) := addT T (some c)
          repeat' (conv => whnf); first
           | (refine bcase_of (fun hr => ?_) (fun hr => ?_) <;> (try simp only [decide_eq_true_eq, decide_eq_false_iff_not, beq_iff_eq, beq_eq_false_iff_ne, ne_eq, bne_iff_ne, bne_eq_false_iff_eq, Bool.not_eq_true, ge_iff_le, gt_iff_lt] at hr) <;> try (exfalso; first | omega | exact hr rfl | (simp at hr; done) | (simp at hr; omega)))
           | (apply And.intro; · first | exact Nat.le_of_ble_eq_true rfl | (show indep _ _ = true; kernel_rfl) | decide | exact ⟨by decide, by decide⟩ | exact ⟨Nat.le_of_ble_eq_true rfl, allOne_of rfl⟩ | exact allOne_of rfl | exact ⟨by omega, by omega⟩ | exact ⟨by omega, by rw [lL]; omega⟩ | exact ⟨by omega, by rw [lenV]; omega⟩ | exact pB | exact pT | exact pC | exact pCs | exact px | exact qx | exact ⟨by omega, by rw [lT]; omega⟩ | exact ⟨by rw [hv1]; omega, by rw [hv1, lB]; omega⟩ | exact ⟨by omega, by rw [lCs]; omega⟩ | exact pure_R _ | exact pp | exact pq | exact raT T (by omega))
           | (apply Exists.intro; apply And.intro; · first | exact rfl | exact gx | (rw [hv1]; exact gb) | exact gb)
           | fail
          all_goals (conv => whnf)
          all_goals refine VLoop.norm [0, 2, 7, 8, 9, 10, 17] [120] ?_
          repeat' (conv => whnf); first
           | (refine bcase_of (fun hr => ?_) (fun hr => ?_) <;> (try simp only [decide_eq_true_eq, decide_eq_false_iff_not, beq_iff_eq, beq_eq_false_iff_ne, ne_eq, bne_iff_ne, bne_eq_false_iff_eq, Bool.not_eq_true, ge_iff_le, gt_iff_lt] at hr) <;> try (exfalso; first | omega | exact hr rfl | (simp at hr; done) | (simp at hr; omega)))
           | (apply And.intro; · first | exact Nat.le_of_ble_eq_true rfl | (show indep _ _ = true; kernel_rfl) | decide | exact ⟨by decide, by decide⟩ | exact ⟨Nat.le_of_ble_eq_true rfl, allOne_of rfl⟩ | exact allOne_of rfl | exact ⟨by omega, by omega⟩ | exact ⟨by omega, by rw [lL]; omega⟩ | exact ⟨by omega, by rw [lenV]; omega⟩ | exact pB | exact pT | exact pC | exact pCs | exact pp | exact pq | exact pT2 | (rw [hrow]; exact pT2) | exact pure_encT _ | exact ⟨by omega, by rw [lT2]; omega⟩ | exact pe | exact qe | exact px | exact qx | exact pure_R [])
           | (apply Exists.intro; apply And.intro; · first | exact rfl)
           | fail
          all_goals (conv => whnf)
          all_goals
            rw [hrow, show T.length + (List.take 1 (List.drop 0 [[i64V c.n, i64V c.a, i64V c.b, bagV c.p, bagV c.q, .bool true]])).length = (T ++ [some c]).length by simp, hfq]
            refine VLoop.inv (fun q : Nat => stB4 m keep bs (T ++ [some c]) ch n q) (fun q => fl.toNat ≤ q ∧ q ≤ n + 2) (fun q => n + 2 - q) fl.toNat ⟨Nat.le_refl _, by omega⟩ rfl ?_
            rintro q ⟨hq1, hq2⟩ ihq
            simp only at ihq
            show VLoop cx E _ (stB4 m keep bs (T ++ [some c]) ch n q) _
            have hwq : IntKind.i64.wrap ((q : Int) + 1) = ((q + 1 : Nat) : Int) := wrap64 (by omega) (by omega)
            refine VLoop.unroll hE mixed ?_
            by_cases hqg : q ≤ n + 1
            case neg =>
              repeat' (conv => whnf); first
               | (refine bcase_of (fun hr => ?_) (fun hr => ?_) <;> (try simp only [decide_eq_true_eq, decide_eq_false_iff_not, beq_iff_eq, beq_eq_false_iff_ne, ne_eq, bne_iff_ne, bne_eq_false_iff_eq, Bool.not_eq_true, ge_iff_le, gt_iff_lt] at hr) <;> try (exfalso; first | omega | exact hr rfl | (simp at hr; done) | (simp at hr; omega)))
               | (apply And.intro; · first | exact Nat.le_of_ble_eq_true rfl | (show indep _ _ = true; kernel_rfl) | decide | exact ⟨by decide, by decide⟩ | exact ⟨Nat.le_of_ble_eq_true rfl, allOne_of rfl⟩ | exact allOne_of rfl | exact ⟨by omega, by omega⟩ | exact ⟨by omega, by rw [lL]; omega⟩ | exact ⟨by omega, by rw [lenV]; omega⟩ | exact pB | exact pT | exact pC | exact pCs | exact pp | exact pq | exact pT2 | (rw [hrow]; exact pT2) | exact pure_encT _ | exact ⟨by omega, by rw [lT2]; omega⟩ | exact pe | exact qe | exact px | exact qx | exact pure_R [])
               | (apply Exists.intro; apply And.intro; · first | exact rfl)
               | fail
              all_goals (conv => whnf)
              all_goals refine VLoop.norm [0, 2, 7, 8, 9, 10] [120] ?_
              repeat' (conv => whnf); first
               | (refine bcase_of (fun hr => ?_) (fun hr => ?_) <;> (try simp only [decide_eq_true_eq, decide_eq_false_iff_not, beq_iff_eq, beq_eq_false_iff_ne, ne_eq, bne_iff_ne, bne_eq_false_iff_eq, Bool.not_eq_true, ge_iff_le, gt_iff_lt] at hr) <;> try (exfalso; first | omega | exact hr rfl | (simp at hr; done) | (simp at hr; omega)))
               | (apply And.intro; · first | exact Nat.le_of_ble_eq_true rfl | (show indep _ _ = true; kernel_rfl) | decide | exact ⟨by decide, by decide⟩ | exact ⟨Nat.le_of_ble_eq_true rfl, allOne_of rfl⟩ | exact allOne_of rfl | exact ⟨by omega, by omega⟩ | exact ⟨by omega, by rw [lL]; omega⟩ | exact ⟨by omega, by rw [lenV]; omega⟩ | exact pB | exact pT | exact pC | exact pCs | exact pp | exact pq | exact pT2 | (rw [hrow]; exact pT2) | exact pure_encT _ | exact ⟨by omega, by rw [lT2]; omega⟩ | exact pe | exact qe | exact px | exact qx | exact pure_R [])
               | (apply Exists.intro; apply And.intro; · first | exact rfl)
               | fail
              all_goals (conv => whnf)
              all_goals try rw [hv2]
              all_goals exact ih (T ++ [some c], ch, n + 1) ⟨hgo, hF⟩ (by show bs.length - (n + 1) < bs.length - n; omega)
            case pos =>
              obtain ⟨t, ht⟩ : ∃ t, (T ++ [some c])[q]? = some t := ⟨_, List.getElem?_eq_getElem (by omega)⟩
              have gq := getT ht
              have hat := hF.told q (by omega) (by omega) t ht
              have d1 := At_ok m ch q hI.inn
              cases ho : atS m ch q with
              | none =>
                rw [ho] at hat d1
                cases t with
                | some x => cases hat
                | none =>
                  have d2 := (cellSame_ok 0 0 0 0 0 0 [] [] [] [] (by decide) (by decide) (by decide) (by decide)).zarg (args' := [cellV 0 0 0 [] [], zV]) (.same (.zero .nil))
                  rw [decide_eq_true (by simp)] at d2
                  replace gq : lget (TR (T ++ [some c])) ((q : Int).toNat) = some [i64V 0, i64V 0, i64V 0, .nils, .nils, .bool false] := gq
                  repeat' (conv => whnf); first
                   | (refine bcase_of (fun hr => ?_) (fun hr => ?_) <;> (try simp only [decide_eq_true_eq, decide_eq_false_iff_not, beq_iff_eq, beq_eq_false_iff_ne, ne_eq, bne_iff_ne, bne_eq_false_iff_eq, Bool.not_eq_true, ge_iff_le, gt_iff_lt] at hr) <;> try (exfalso; first | omega | exact hr rfl | (simp at hr; done) | (simp at hr; omega)))
                   | (apply And.intro; · first | exact Nat.le_of_ble_eq_true rfl | (show indep _ _ = true; kernel_rfl) | decide | exact ⟨by decide, by decide⟩ | exact ⟨Nat.le_of_ble_eq_true rfl, allOne_of rfl⟩ | exact allOne_of rfl | exact ⟨by omega, by omega⟩ | exact ⟨by omega, by rw [lL]; omega⟩ | exact ⟨by omega, by rw [lenV]; omega⟩ | exact pB | exact pT | exact pC | exact pCs | exact pp | exact pq | exact pT2 | (rw [hrow]; exact pT2) | exact pure_encT _ | exact ⟨by omega, by rw [lT2]; omega⟩ | exact pe | exact qe | exact px | exact qx | exact pure_R [])
                   | (apply Exists.intro; apply And.intro; · first | exact rfl | exact d1 | exact d2 | exact gq | (rw [Nat.zero_add]; exact gq))
                   | rw [hwq]
                   | fail
                  all_goals (conv => whnf)
                  all_goals refine VLoop.norm [0, 2, 7, 8, 9, 10, 17] [120] ?_
                  repeat' (conv => whnf); first
                   | (refine bcase_of (fun hr => ?_) (fun hr => ?_) <;> (try simp only [decide_eq_true_eq, decide_eq_false_iff_not, beq_iff_eq, beq_eq_false_iff_ne, ne_eq, bne_iff_ne, bne_eq_false_iff_eq, Bool.not_eq_true, ge_iff_le, gt_iff_lt] at hr) <;> try (exfalso; first | omega | exact hr rfl | (simp at hr; done) | (simp at hr; omega)))
                   | (apply And.intro; · first | exact Nat.le_of_ble_eq_true rfl | (show indep _ _ = true; kernel_rfl) | decide | exact ⟨by decide, by decide⟩ | exact ⟨Nat.le_of_ble_eq_true rfl, allOne_of rfl⟩ | exact allOne_of rfl | exact ⟨by omega, by omega⟩ | exact ⟨by omega, by rw [lL]; omega⟩ | exact ⟨by omega, by rw [lenV]; omega⟩ | exact pB | exact pT | exact pC | exact pCs | exact pp | exact pq | exact pT2 | (rw [hrow]; exact pT2) | exact pure_encT _ | exact ⟨by omega, by rw [lT2]; omega⟩ | exact pe | exact qe | exact px | exact qx | exact pure_R [])
                   | (apply Exists.intro; apply And.intro; · first | exact rfl)
                   | fail
                  all_goals (conv => whnf)
                  all_goals try rw [hwq]
                  all_goals exact ihq (q + 1) ⟨by omega, by omega⟩ (by omega)
              | some e =>
                rw [ho] at hat d1
                cases t with
                | none => cases hat
                | some x =>
                  have he := at_in hI.inn ho
                  have pe := pure_R e.p
                  have qe := pure_R e.q
                  have px := pure_R x.p
                  have qx := pure_R x.q
                  have hxl : x.p.length ≤ 100000 ∧ x.q.length ≤ 100000 := by
                    simp only [alikeO, decide_eq_true_eq] at hat
                    rw [← hat.2.2.2.1, ← hat.2.2.2.2]; exact ⟨he.lp, he.lq⟩
                  have d2 := cellSame_ok e.n e.a e.b x.n x.a x.b e.p e.q x.p x.q he.lp he.lq hxl.1 hxl.2
                  rw [show decide (e.n = x.n ∧ e.a = x.a ∧ e.b = x.b ∧ e.p = x.p ∧ e.q = x.q) = true from hat] at d2
                  replace gq : lget (TR (T ++ [some c])) ((q : Int).toNat) = some [i64V x.n, i64V x.a, i64V x.b, bagV x.p, bagV x.q, .bool true] := gq
                  repeat' (conv => whnf); first
                   | (refine bcase_of (fun hr => ?_) (fun hr => ?_) <;> (try simp only [decide_eq_true_eq, decide_eq_false_iff_not, beq_iff_eq, beq_eq_false_iff_ne, ne_eq, bne_iff_ne, bne_eq_false_iff_eq, Bool.not_eq_true, ge_iff_le, gt_iff_lt] at hr) <;> try (exfalso; first | omega | exact hr rfl | (simp at hr; done) | (simp at hr; omega)))
                   | (apply And.intro; · first | exact Nat.le_of_ble_eq_true rfl | (show indep _ _ = true; kernel_rfl) | decide | exact ⟨by decide, by decide⟩ | exact ⟨Nat.le_of_ble_eq_true rfl, allOne_of rfl⟩ | exact allOne_of rfl | exact ⟨by omega, by omega⟩ | exact ⟨by omega, by rw [lL]; omega⟩ | exact ⟨by omega, by rw [lenV]; omega⟩ | exact pB | exact pT | exact pC | exact pCs | exact pp | exact pq | exact pT2 | (rw [hrow]; exact pT2) | exact pure_encT _ | exact ⟨by omega, by rw [lT2]; omega⟩ | exact pe | exact qe | exact px | exact qx | exact pure_R [])
                   | (apply Exists.intro; apply And.intro; · first | exact rfl | exact d1 | exact d2 | exact gq | (rw [Nat.zero_add]; exact gq))
                   | rw [hwq]
                   | fail
                  all_goals (conv => whnf)
                  all_goals refine VLoop.norm [0, 2, 7, 8, 9, 10, 17] [120] ?_
                  repeat' (conv => whnf); first
                   | (refine bcase_of (fun hr => ?_) (fun hr => ?_) <;> (try simp only [decide_eq_true_eq, decide_eq_false_iff_not, beq_iff_eq, beq_eq_false_iff_ne, ne_eq, bne_iff_ne, bne_eq_false_iff_eq, Bool.not_eq_true, ge_iff_le, gt_iff_lt] at hr) <;> try (exfalso; first | omega | exact hr rfl | (simp at hr; done) | (simp at hr; omega)))
                   | (apply And.intro; · first | exact Nat.le_of_ble_eq_true rfl | (show indep _ _ = true; kernel_rfl) | decide | exact ⟨by decide, by decide⟩ | exact ⟨Nat.le_of_ble_eq_true rfl, allOne_of rfl⟩ | exact allOne_of rfl | exact ⟨by omega, by omega⟩ | exact ⟨by omega, by rw [lL]; omega⟩ | exact ⟨by omega, by rw [lenV]; omega⟩ | exact pB | exact pT | exact pC | exact pCs | exact pp | exact pq | exact pT2 | (rw [hrow]; exact pT2) | exact pure_encT _ | exact ⟨by omega, by rw [lT2]; omega⟩ | exact pe | exact qe | exact px | exact qx | exact pure_R [])
                   | (apply Exists.intro; apply And.intro; · first | exact rfl)
                   | fail
                  all_goals (conv => whnf)
                  all_goals try rw [hwq]
                  all_goals exact ihq (q + 1) ⟨by omega, by omega⟩ (by omega)
end Go.Proofs.YtbppemcdphgknaaDoor
/- Chapter 13: what the laid table gives; the arguments as they are drawn. -/
namespace Go.Proofs.YtbppemcdphgknaaDoor
open Go Go.Vm
open Go.ChangeShapes Go.WideShapes Go.ChangeAt Go.WideMaps Go.WideElems Go.RowKit
set_option maxRecDepth 100000
set_option linter.unusedSimpArgs false
theorem own : ownKnob Tryd.prog.godebug = none := by kernel_rfl
theorem laidOut : laidOutB Tryd.prog = true := by kernel_rfl
abbrev laidRows : List (String × DataW Unit) := [("cuboid/tag.rows", Rows.laid_cuboid_tag_rows)]
theorem gRows : Tryd.prog.globalNamed "cuboid/tag.rows" = some 0 := by kernel_rfl
theorem tRows : (Tryd.prog.globals[0]?).map (·.type) = some 164 := by kernel_rfl
def tbl : List (Int × Bool × Bool) := [(0, false, false), (1, false, true), (2, true, true), (3, true, false)]

theorem el_row {W : World} {fuel : Nat} {l : List Value} {x : DataW Unit × List MemPlace} {n : Int} {p q : Bool} (h : DataW.trod (fun _ => ()) Tryd.prog W 0 (fun _ => true) false fuel 130 l = some x)
    (hx : x.1 = .agg [.lit (.int .i64 n), .lit (.bool p), .lit (.bool q)]) : l = [.int .i64 n, .bool p, .bool q] := by
  obtain ⟨xs, m, rfl, rfl, hlen, hn, hf⟩ := DataW.trod_struct Tryd.underlying130 h
  have c130 : Tryd.prog.cellsOf 130 = 3 := by kernel_rfl
  have c3 : Tryd.prog.cellsOf 3 = 1 := by kernel_rfl
  have c4 : Tryd.prog.cellsOf 4 = 1 := by kernel_rfl
  rw [c130] at hlen
  match l, hlen with
  | [a, b, c], _ =>
    have hn3 : xs.length = 3 := hn
    match xs, hn3 with
    | [y0, y1, y2], _ =>
      have f0 := hf 0 _ rfl
      have f1 := hf 1 _ rfl
      have f2 := hf 2 _ rfl
      simp only [c3, c4, List.drop_zero, List.take_succ_cons, List.take_zero, List.drop_succ_cons, List.getElem?_cons_zero, List.getElem?_cons_succ] at f0 f1 f2
      obtain ⟨k, e1, e2, _⟩ := DataW.trod_int Tryd.underlying3 f0
      obtain ⟨k1, e3, e4⟩ := DataW.trod_bool Tryd.underlying4 f1
      obtain ⟨k2, e5, e6⟩ := DataW.trod_bool Tryd.underlying4 f2
      subst e2; subst e4; subst e6
      simp only [List.map_cons, List.map_nil, DataW.agg.injEq, List.cons.injEq, DataW.lit.injEq, Lit.int.injEq, Lit.bool.injEq, true_and, and_true] at hx
      obtain ⟨rfl, rfl, rfl⟩ := hx
      cases e1; cases e3; cases e5; rfl

theorem four_rows {l : List Value} (h0 : (l.drop (0 * 3)).take 3 = [.int .i64 0, .bool false, .bool false]) (h1 : (l.drop (1 * 3)).take 3 = [.int .i64 1, .bool false, .bool true])
    (h2 : (l.drop (2 * 3)).take 3 = [.int .i64 2, .bool true, .bool true]) (h3 : (l.drop (3 * 3)).take 3 = [.int .i64 3, .bool true, .bool false]) (hl : l.length = 12) :
    l = [.int .i64 0, .bool false, .bool false, .int .i64 1, .bool false, .bool true, .int .i64 2, .bool true, .bool true, .int .i64 3, .bool true, .bool false] := by
  match l, hl with
  | [a0, a1, a2, a3, a4, a5, a6, a7, a8, a9, a10, a11], _ => simp at h0 h1 h2 h3; simp [h0, h1, h2, h3]

theorem globOk {W : World} (h : laidMetH Tryd.prog laidRows W) : GOk gv (memOf W) := by
  rw [MakeChecks.laidMetH_plain _ _ _ (by kernel_rfl)] at h
  obtain ⟨ps, ⟨g0, t0, cs0, f0, p0, q0, hg0, ht0, hv0, hd0, _, _⟩, _, _⟩ := h
  obtain rfl := Option.some.inj (gRows.symm.trans hg0)
  obtain rfl := Option.some.inj (tRows.symm.trans ht0)
  obtain ⟨xs, m1, rfl, hx1, hlen, hn, hel⟩ := DataW.trod_array Tryd.underlying164 hd0
  have c130 : Tryd.prog.cellsOf 130 = 3 := by kernel_rfl
  have cA : Tryd.prog.cellsOf 164 = 12 := by kernel_rfl
  rw [cA] at hlen
  rw [c130] at hel
  match xs, hn with
  | [x0, x1, x2, x3], _ =>
    simp only [Rows.laid_cuboid_tag_rows, Prod.mk.injEq, DataW.agg.injEq, List.map_cons, List.map_nil, List.cons.injEq, and_true] at hx1
    obtain ⟨⟨e0, e1, e2, e3⟩, _⟩ := hx1
    have hcs := four_rows (el_row (hel 0 (by decide)) e0.symm) (el_row (hel 1 (by decide)) e1.symm) (el_row (hel 2 (by decide)) e2.symm) (el_row (hel 3 (by decide)) e3.symm) hlen
    have hcell : ∀ i, memOf W 0 i = cs0.toList[i]? := fun i => by rw [Array.getElem?_toList]; exact World.var?_cell hg0 hv0 i
    rw [hcs] at hcell
    intro g
    cases g with
    | succ g => exact .undef _
    | zero =>
      refine VRel.lpt (o := 0) (b := 0) (fun _ k => ([.int .i64 0, .bool false, .bool false, .int .i64 1, .bool false, .bool true, .int .i64 2, .bool true, .bool true, .int .i64 3, .bool true, .bool false] : List Value).getD k undef) ?_ ?_ ?_
      · intro e he; simp at he; subst he; rfl
      · intro i k e v he hv
        match i, he with
        | 0, he =>
          simp only [List.getElem?_cons_zero, Option.some.injEq] at he
          subst he
          match k, hv with
          | 0, hv => simp at hv; subst hv; exact .int _ _
          | 1, hv => simp at hv; subst hv; exact .bool _
          | 2, hv => simp at hv; subst hv; exact .bool _
          | 3, hv => simp at hv; subst hv; exact .int _ _
          | 4, hv => simp at hv; subst hv; exact .bool _
          | 5, hv => simp at hv; subst hv; exact .bool _
          | 6, hv => simp at hv; subst hv; exact .int _ _
          | 7, hv => simp at hv; subst hv; exact .bool _
          | 8, hv => simp at hv; subst hv; exact .bool _
          | 9, hv => simp at hv; subst hv; exact .int _ _
          | 10, hv => simp at hv; subst hv; exact .bool _
          | 11, hv => simp at hv; subst hv; exact .bool _
          | k + 12, hv => simp at hv
        | i + 1, he => simp at he
      · intro i k hi hk
        have hi0 : i = 0 := by simpa using hi
        subst hi0
        simp only [Nat.zero_add, Nat.zero_mul]
        rw [hcell, List.getD_eq_getElem?_getD]
        rw [List.getElem?_eq_getElem (by simpa using hk)]
        rfl
theorem laid_heap : ∀ (w w' : World) (args : Array Value), w.heap = w'.heap → (fun (w : World) (_ : Array Value) => laidMetH Tryd.prog laidRows w) w args → (fun (w : World) (_ : Array Value) => laidMetH Tryd.prog laidRows w) w' args := fun _ _ _ hh h => h.of_heap hh

theorem door_met (os : Os) (args : Array Value) : laidMetH Tryd.prog laidRows ((World.doorLaid Tryd.prog 400 os).forCall (fun _ _ => 0) ⟨#[], args, []⟩).memory :=
  laidMetH_of_parts3 (fuel := 8) (laidMet_of_run' 8 (by kernel_rfl) (by kernel_rfl)) (by kernel_rfl) (by kernel_rfl)


theorem wf64 {n : Int} (h : (Lit.int .i64 n).wf = true) : in64 n := by
  simp only [Lit.wf, Bool.and_eq_true, decide_eq_true_eq] at h
  have e1 : IntKind.i64.min = -9223372036854775808 := by decide
  have e2 : IntKind.i64.max = 9223372036854775807 := by decide
  unfold in64; omega
theorem wf8 {n : Int} (h : (Lit.int .u8 n).wf = true) : 0 ≤ n ∧ n < 256 := by
  simp only [Lit.wf, Bool.and_eq_true, decide_eq_true_eq] at h
  have e1 : IntKind.u8.min = 0 := by decide
  have e2 : IntKind.u8.max = 255 := by decide
  omega
abbrev runSh : Sh := .pair (.int .i64) (.pair (.int .i64) .unit)
abbrev celSh : Sh := .pair (.int .i64) (.pair (.pair (.int .i64) (.pair (.int .i64) .unit)) (.pair (.pair (.slice runSh) (.pair (.slice runSh) .unit)) .unit))
abbrev entSh : Sh := .pair (.int .i64) (.pair (.int .i64) (.pair celSh .unit))
abbrev chgSh : Sh := .pair (.int .i64) (.pair (.int .i64) (.pair celSh (.pair .bool .unit)))
abbrev casSh : Sh := .pair (.int .i64) (.pair (.int .i64) (.pair (.slice entSh) (.pair chgSh .unit)))
abbrev cfgSh : Sh := .pair (.int .i64) (.pair (.int .i64) (.pair (.int .i64) (.pair (.int .i64) .unit)))
abbrev batSh : Sh := .pair (.slice chgSh) .unit
def bagOf (l : List runSh.T) : List (Int × Int) := l.map fun r => (r.1, r.2.1)
def celOf (v o : Int) (c : celSh.T) : En := ⟨v, o, c.1, c.2.1.1, c.2.1.2.1, bagOf c.2.2.1.1, bagOf c.2.2.1.2.1⟩
def enOf (e : entSh.T) : En := celOf e.1 e.2.1 e.2.2.1
def chgOf (x : chgSh.T) : Chg := ⟨x.1, x.2.1, celOf 0 0 x.2.2.1, x.2.2.2.1⟩
theorem bag_enc (l : List runSh.T) : (bagOf l).map encR = l.map runSh.enc := by
  rw [bagOf, List.map_map]; rfl
theorem ent_enc (e : entSh.T) : encE (enOf e) = entSh.enc e := by
  show [i64V e.1, i64V e.2.1, i64V e.2.2.1.1, i64V e.2.2.1.2.1.1, i64V e.2.2.1.2.1.2.1, .lst 2 ((bagOf e.2.2.1.2.2.1.1).map encR), .lst 2 ((bagOf e.2.2.1.2.2.1.2.1).map encR)] = _
  rw [bag_enc, bag_enc]; rfl
theorem chg_enc (x : chgSh.T) : encC (chgOf x) = chgSh.enc x := by
  show [i64V x.1, i64V x.2.1, i64V x.2.2.1.1, i64V x.2.2.1.2.1.1, i64V x.2.2.1.2.1.2.1, .lst 2 ((bagOf x.2.2.1.2.2.1.1).map encR), .lst 2 ((bagOf x.2.2.1.2.2.1.2.1).map encR), .bool x.2.2.2.1] = _
  rw [bag_enc, bag_enc]; rfl
theorem ents_enc (l : List entSh.T) : (l.map enOf).map encE = l.map entSh.enc := by
  rw [List.map_map, show (encE ∘ enOf) = entSh.enc from funext ent_enc]
theorem chgs_enc (l : List chgSh.T) : (l.map chgOf).map encC = l.map chgSh.enc := by
  rw [List.map_map, show (encC ∘ chgOf) = chgSh.enc from funext chg_enc]
theorem ch_arg (l : List entSh.T) : chV (l.map enOf) = Sh.argV (.slice entSh) l := by
  show V.lst 7 _ = V.lst 7 _
  rw [ents_enc]
theorem chgs_arg (l : List chgSh.T) : V.lst 8 ((l.map chgOf).map encC) = Sh.argV (.slice chgSh) l := by
  show V.lst 8 _ = V.lst 8 _
  rw [chgs_enc]
theorem vs_arg (l : List Int) : V.lst 1 (VR l) = Sh.argV (.slice (.int .i64)) l := rfl
theorem bats_arg (l : List batSh.T) : V.lst 1 ((l.map fun b => b.1.map chgOf).map encB) = Sh.argV (.slice batSh) l := by
  show V.lst 1 _ = V.lst 1 _
  rw [List.map_map]
  congr 1
  refine List.map_congr_left fun b _ => ?_
  show [V.lst 8 ((b.1.map chgOf).map encC)] = [V.lst 8 (b.1.map chgSh.enc)] ++ []
  rw [chgs_enc]; rfl
theorem cas_arg (x : casSh.T) : caseV x.1 x.2.1 (x.2.2.1.map enOf) x.2.2.2.1.1 x.2.2.2.1.2.1 (celOf 0 0 x.2.2.2.1.2.2.1) x.2.2.2.1.2.2.2.1 = Sh.argV casSh x := by
  show V.agg [i64V x.1, i64V x.2.1, .lst 7 ((x.2.2.1.map enOf).map encE), i64V x.2.2.2.1.1, i64V x.2.2.2.1.2.1, i64V x.2.2.2.1.2.2.1.1, i64V x.2.2.2.1.2.2.1.2.1.1, i64V x.2.2.2.1.2.2.1.2.1.2.1, .lst 2 ((bagOf x.2.2.2.1.2.2.1.2.2.1.1).map encR), .lst 2 ((bagOf x.2.2.2.1.2.2.1.2.2.1.2.1).map encR), .bool x.2.2.2.1.2.2.2.1] = _
  rw [ents_enc, bag_enc, bag_enc]; rfl
theorem bag_in {l : List runSh.T} (h : ∀ r ∈ l, runSh.Wf r) : RIn (bagOf l) := fun r hr => by
  obtain ⟨x, hx, rfl⟩ := List.mem_map.1 hr
  exact ⟨wf64 (h x hx).1, wf64 (h x hx).2.1⟩
theorem cel64 {c : celSh.T} (h : celSh.Wf c) (v o : Int) : En64 (celOf v o c) := ⟨bag_in h.2.2.1.1.2, bag_in h.2.2.1.2.1.2, wf64 h.2.1.1, wf64 h.2.1.2.1⟩
theorem ents64 {l : List entSh.T} (h : Sh.Wf (.slice entSh) l) : ∀ e ∈ l.map enOf, En64 e := fun e he => by
  obtain ⟨x, hx, rfl⟩ := List.mem_map.1 he
  exact cel64 (h.2 x hx).2.2.1 _ _
theorem chgs64 {l : List chgSh.T} (h : Sh.Wf (.slice chgSh) l) : ∀ x ∈ l.map chgOf, En64 x.c := fun e he => by
  obtain ⟨x, hx, rfl⟩ := List.mem_map.1 he
  exact cel64 (h.2 x hx).2.2.1 _ _
end Go.Proofs.YtbppemcdphgknaaDoor
