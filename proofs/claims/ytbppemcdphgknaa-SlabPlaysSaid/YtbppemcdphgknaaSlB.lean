/- Chapter 14: a chain in memory of its own. -/
import Derived.Test.YtbppemcdphgknaaSlA
set_option linter.unusedVariables false
set_option linter.unusedSimpArgs false
namespace Go.Proofs.Ytbppemcdphgknaa
open Go Go.Vm
set_option maxRecDepth 100000
set_option maxHeartbeats 40000000
set_option linter.unusedSimpArgs false
set_option linter.unusedVariables false
def EnOk (e : En) : Prop := e.p.length ≤ 100000 ∧ e.q.length ≤ 100000
theorem put_same (l : List En) (i : Nat) (e : En) (h : l[i]? = some e) : lset (l.map encE) i (lput (encE e) 2 [i64V e.n, i64V e.a, i64V e.b, bagV e.p, bagV e.q]) = l.map encE := by
  have hlt := (List.getElem?_eq_some_iff.1 h).1
  have e1 : lput (encE e) 2 [i64V e.n, i64V e.a, i64V e.b, bagV e.p, bagV e.q] = encE e := rfl
  rw [e1, lset_eq]
  refine List.ext_getElem? fun j => ?_
  rw [List.getElem?_set]
  by_cases hj : i = j
  · subst hj; rw [if_pos rfl, if_pos (by simpa using hlt), List.getElem?_map, h]; rfl
  · rw [if_neg hj]
theorem take_all (l : List En) : ((l.map encE).drop 0).take l.length = l.map encE := by rw [List.drop_zero, List.take_of_length_le (by simp)]
def stCopy (l : List En) (i : Int) : St DV := mkSt 28 [(0, chV l), (3, .rsl (9, 1) 7 0 l.length), (12, .rsl (9, 1) 7 0 l.length), (13, i64V l.length), (14, i64V i)] [(8, .row 7 (l.map encE) false)] []
theorem copy_ok (l : List En) (hl : l.length ≤ 1000) (hb : ∀ e ∈ l, EnOk e) : PTriple Try.prog gv 44 [chV l] (chV l) := by
  have hlen : (l.map encE).length = l.length := by simp
  have bl : (0 : Int) ≤ (l.map encE).length ∧ ((l.map encE).length : Int) ≤ (l.map encE).length ∧ ((l.map encE).length : Int) * 88 ≤ roomBound ∧ ((l.map encE).length : Int) ≤ roomBound := ⟨by omega, by omega, by unfold roomBound; omega, by unfold roomBound; omega⟩
  refine PTriple.of_body (C := cx) Try.func44 rfl (by kernel_rfl) mixed fun E hE => ?_
  repeat' (conv => whnf); first
   | (refine bcase_of (fun hr => ?_) (fun hr => ?_) <;> try (exfalso; simp at hr; done))
   | (apply And.intro; · first | exact Nat.le_of_ble_eq_true rfl | (show indep _ _ = true; kernel_rfl) | decide | exact ⟨by decide, by decide⟩ | exact ⟨Nat.le_of_ble_eq_true rfl, allOne_of rfl⟩ | exact bl | exact pure_R _ | exact ⟨by simp, one_E _⟩)
   | (apply Exists.intro; apply And.intro; · first | exact rfl)
   | fail
  refine VLoop.norm [0, 3, 12, 13, 14] [8] ?_
  repeat' (conv => whnf); first
   | (refine bcase_of (fun hr => ?_) (fun hr => ?_) <;> try (exfalso; simp at hr; done))
   | (apply And.intro; · first | exact Nat.le_of_ble_eq_true rfl | (show indep _ _ = true; kernel_rfl) | decide | exact pure_E _ | (rw [copied0]; exact pure_E _))
   | (apply Exists.intro; apply And.intro; · first | exact rfl)
   | fail
  rw [copied0]
  refine VLoop.inv (fun i : Int => stCopy l i) (fun i => 0 ≤ i ∧ i ≤ l.length) (fun i => l.length - i.toNat) 0 ⟨Int.le_refl _, by omega⟩ (by simp only [stCopy, hlen, Int.toNat_natCast]; rfl) ?_
  intro i hi ih
  refine VLoop.unroll hE mixed ?_
  conv => whnf
  refine bcase_of (fun hr => ?_) (fun hr => ?_)
  case refine_2 =>
    repeat' (conv => whnf); first
     | (refine bcase_of (fun hr => ?_) (fun hr => ?_) <;> try (exfalso; simp at hr; done))
     | (apply And.intro; · first | exact Nat.le_of_ble_eq_true rfl | (show indep _ _ = true; kernel_rfl) | decide | (show 0 + l.length ≤ (l.map encE).length; rw [Nat.zero_add, hlen]; exact Nat.le_refl _) | (rw [take_all]; exact pure_E _) | exact ⟨by decide, by decide⟩ | exact ⟨Nat.le_of_ble_eq_true rfl, allOne_of rfl⟩ | exact bl | exact pure_R _ | exact ⟨by simp, one_E _⟩)
     | (apply Exists.intro; apply And.intro; · first | exact rfl)
     | fail
    all_goals (conv => whnf)
    show retOf [V.lst 7 (((l.map encE).drop 0).take l.length)] = chV l
    rw [take_all]; rfl
  case refine_1 =>
    have hin : i < l.length := by simpa using hr
    have hw : IntKind.i64.wrap (i + 1) = i + 1 := wrap64 (by omega) (by omega)
    obtain ⟨e, he⟩ : ∃ z, l[i.toNat]? = some z := ⟨_, List.getElem?_eq_getElem (by omega)⟩
    have hem := hb e (List.mem_of_getElem? he)
    have hps : lset (l.map encE) (0 + i.toNat) (lput (encE e) (0 + 2) (V.agg [i64V e.n, i64V e.a, i64V e.b, bagV e.p, bagV e.q]).cells) = l.map encE := by rw [Nat.zero_add]; exact put_same l _ e he
    repeat' (conv => whnf); first
     | (refine bcase_of (fun hr => ?_) (fun hr => ?_) <;> try (exfalso; simp at hr; done))
     | (apply And.intro; · first | exact Nat.le_of_ble_eq_true rfl | (show indep _ _ = true; kernel_rfl) | decide | exact ⟨by decide, by decide⟩ | exact ⟨Nat.le_of_ble_eq_true rfl, allOne_of rfl⟩ | exact bl | exact pure_R _ | exact ⟨by simp, one_E _⟩ | exact ⟨hi.1, hin⟩)
     | (apply Exists.intro; apply And.intro; · first | exact rfl | exact cells_ok e.n e.a e.b e.p e.q hem.1 hem.2 | (show lget _ _ = some (encE e); rw [lget_eq, Nat.zero_add, List.getElem?_map, he]; rfl))
     | fail
    all_goals (conv => whnf)
    refine VLoop.norm [0, 3, 12, 13, 14] [8] ?_
    repeat' (conv => whnf); first
     | (refine bcase_of (fun hr => ?_) (fun hr => ?_) <;> try (exfalso; simp at hr; done))
     | (apply And.intro; · first | exact Nat.le_of_ble_eq_true rfl | (show indep _ _ = true; kernel_rfl) | decide | exact pure_E _ | (rw [hps]; exact pure_E _))
     | (apply Exists.intro; apply And.intro; · first | exact rfl)
     | fail
    rw [hps]
    exact ih (IntKind.i64.wrap (i + 1)) ⟨by omega, by omega⟩ (by omega)
end Go.Proofs.Ytbppemcdphgknaa
