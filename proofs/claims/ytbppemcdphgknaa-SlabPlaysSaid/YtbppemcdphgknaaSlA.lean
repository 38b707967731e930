/- Chapter 14: entries; a cell in memory of its own. -/
import Derived.Test.YtbppemcdphgknaaACx
set_option linter.unusedVariables false
set_option linter.unusedSimpArgs false
namespace Go.Proofs.Ytbppemcdphgknaa
open Go Go.Vm
set_option maxRecDepth 100000
set_option maxHeartbeats 40000000
set_option linter.unusedSimpArgs false
set_option linter.unusedVariables false
abbrev i64V (n : Int) : V := .int .i64 n
/-- An entry of a chain: its version, its tag, its cell. -/
structure En where
  v : Int
  o : Int
  n : Int
  a : Int
  b : Int
  p : List (Int × Int)
  q : List (Int × Int)
deriving DecidableEq
def encR (x : Int × Int) : List V := [i64V x.1, i64V x.2]
abbrev bagV (l : List (Int × Int)) : V := .lst 2 (l.map encR)
def encE (e : En) : List V := [i64V e.v, i64V e.o, i64V e.n, i64V e.a, i64V e.b, bagV e.p, bagV e.q]
abbrev chV (l : List En) : V := .lst 7 (l.map encE)
theorem pure_R (l : List (Int × Int)) : PureEs (l.map encR) := fun e he v hv => by
  obtain ⟨x, _, rfl⟩ := List.mem_map.1 he
  simp [encR] at hv
  rcases hv with rfl | rfl <;> exact .int _ _
theorem pure_E (l : List En) : PureEs (l.map encE) := fun e he v hv => by
  obtain ⟨x, _, rfl⟩ := List.mem_map.1 he
  simp [encE] at hv
  rcases hv with rfl | rfl | rfl | rfl | rfl | rfl | rfl
  · exact .int _ _
  · exact .int _ _
  · exact .int _ _
  · exact .int _ _
  · exact .int _ _
  · exact .lst (pure_R _)
  · exact .lst (pure_R _)
theorem pure_nil : PureEs [] := fun e he => by cases he
theorem one_R (l : List (Int × Int)) : allOne (l.map encR) 2 := fun e he => by
  obtain ⟨x, _, rfl⟩ := List.mem_map.1 he
  exact ⟨rfl, rfl⟩
theorem one_E (l : List En) : allOne (l.map encE) 7 := fun e he => by
  obtain ⟨x, _, rfl⟩ := List.mem_map.1 he
  exact ⟨rfl, rfl⟩
abbrev cellV (n a b : Int) (p q : List (Int × Int)) : V := .agg [i64V n, i64V a, i64V b, bagV p, bagV q]
theorem copied0 (z : List V) (l : List (List V)) : lput (List.replicate ((l.length : Nat) : Int).toNat z) 0 (l.take ((l.length : Nat) : Int).toNat) = l := by
  rw [Int.toNat_natCast, List.take_length]; simp [lput]
theorem copied (z : List V) (l : List (List V)) : ((lput (List.replicate ((l.length : Nat) : Int).toNat z) 0 (l.take ((l.length : Nat) : Int).toNat)).drop 0).take ((l.length : Nat) : Int).toNat = l := by
  rw [copied0]; simp
theorem copied_len (z : List V) (l : List (List V)) : 0 + ((l.length : Nat) : Int).toNat ≤ (lput (List.replicate ((l.length : Nat) : Int).toNat z) 0 (l.take ((l.length : Nat) : Int).toNat)).length := by
  rw [copied0]; simp
/-- A row of nothing yet, filled. -/
theorem cells_ok (n a b : Int) (p q : List (Int × Int)) (hp : p.length ≤ 100000) (hq : q.length ≤ 100000) : PTriple Try.prog gv 54 [cellV n a b p q] (cellV n a b p q) := by
  have lp : (p.map encR).length = p.length := by simp
  have lq : (q.map encR).length = q.length := by simp
  have bp : (0 : Int) ≤ (p.map encR).length ∧ ((p.map encR).length : Int) ≤ (p.map encR).length ∧ ((p.map encR).length : Int) * 16 ≤ roomBound ∧ ((p.map encR).length : Int) ≤ roomBound := ⟨by omega, by omega, by unfold roomBound; omega, by unfold roomBound; omega⟩
  have bq : (0 : Int) ≤ (q.map encR).length ∧ ((q.map encR).length : Int) ≤ (q.map encR).length ∧ ((q.map encR).length : Int) * 16 ≤ roomBound ∧ ((q.map encR).length : Int) ≤ roomBound := ⟨by omega, by omega, by unfold roomBound; omega, by unfold roomBound; omega⟩
  refine PTriple.of_body (C := cx) Try.func54 rfl (by kernel_rfl) mixed fun E hE => ?_
  repeat' (conv => whnf); first
   | (refine bcase_of (fun hr => ?_) (fun hr => ?_) <;> try (exfalso; simp at hr; done))
   | (apply And.intro; · first | exact Nat.le_of_ble_eq_true rfl | (show indep _ _ = true; kernel_rfl) | decide | exact ⟨by decide, by decide⟩ | exact ⟨Nat.le_of_ble_eq_true rfl, allOne_of rfl⟩ | exact bp | exact bq | exact ⟨rfl, copied_len _ _⟩ | (rw [copied]; exact pure_R _) | exact ⟨by simp, one_R _⟩)
   | (apply Exists.intro; apply And.intro; · first | exact rfl)
   | fail
  refine VLoop.unroll hE mixed ?_
  repeat' (conv => whnf); first
   | (refine bcase_of (fun hr => ?_) (fun hr => ?_) <;> try (exfalso; simp at hr; done))
   | (apply And.intro; · first | exact Nat.le_of_ble_eq_true rfl | (show indep _ _ = true; kernel_rfl) | decide | exact ⟨by decide, by decide⟩ | exact ⟨Nat.le_of_ble_eq_true rfl, allOne_of rfl⟩ | exact bp | exact bq | exact ⟨rfl, copied_len _ _⟩ | (rw [copied]; exact pure_R _) | exact ⟨by simp, one_R _⟩)
   | (apply Exists.intro; apply And.intro; · first | exact rfl)
   | fail
  refine VLoop.weak [.snap (2, 1) 3] ?_
  repeat' (conv => whnf); first
   | (refine bcase_of (fun hr => ?_) (fun hr => ?_) <;> try (exfalso; simp at hr; done))
   | (apply And.intro; · first | exact Nat.le_of_ble_eq_true rfl | (show indep _ _ = true; kernel_rfl) | decide | exact ⟨by decide, by decide⟩ | exact ⟨Nat.le_of_ble_eq_true rfl, allOne_of rfl⟩ | exact bp | exact bq | exact ⟨rfl, copied_len _ _⟩ | (rw [copied]; exact pure_R _) | exact ⟨by simp, one_R _⟩)
   | (apply Exists.intro; apply And.intro; · first | exact rfl)
   | fail
  refine VLoop.unroll hE mixed ?_
  repeat' (conv => whnf); first
   | (refine bcase_of (fun hr => ?_) (fun hr => ?_) <;> try (exfalso; simp at hr; done))
   | (apply And.intro; · first | exact Nat.le_of_ble_eq_true rfl | (show indep _ _ = true; kernel_rfl) | decide | exact ⟨by decide, by decide⟩ | exact ⟨Nat.le_of_ble_eq_true rfl, allOne_of rfl⟩ | exact bp | exact bq | exact ⟨rfl, copied_len _ _⟩ | (rw [copied]; exact pure_R _) | exact ⟨by simp, one_R _⟩)
   | (apply Exists.intro; apply And.intro; · first | exact rfl)
   | fail
  refine VLoop.weak [.snap (2, 1) 4] ?_
  repeat' (conv => whnf); first
   | (refine bcase_of (fun hr => ?_) (fun hr => ?_) <;> try (exfalso; simp at hr; done))
   | (apply And.intro; · first | exact Nat.le_of_ble_eq_true rfl | (show indep _ _ = true; kernel_rfl) | decide | exact ⟨by decide, by decide⟩ | exact ⟨Nat.le_of_ble_eq_true rfl, allOne_of rfl⟩ | exact bp | exact bq | exact ⟨rfl, copied_len _ _⟩ | (rw [copied]; exact pure_R _) | exact ⟨by simp, one_R _⟩)
   | (apply Exists.intro; apply And.intro; · first | exact rfl)
   | fail
  refine VLoop.unroll hE mixed ?_
  repeat' (conv => whnf); first
   | (refine bcase_of (fun hr => ?_) (fun hr => ?_) <;> try (exfalso; simp at hr; done))
   | (apply And.intro; · first | exact Nat.le_of_ble_eq_true rfl | (show indep _ _ = true; kernel_rfl) | decide | exact ⟨by decide, by decide⟩ | exact ⟨Nat.le_of_ble_eq_true rfl, allOne_of rfl⟩ | exact bp | exact bq | exact ⟨rfl, copied_len _ _⟩ | (rw [copied]; exact pure_R _) | exact ⟨by simp, one_R _⟩)
   | (apply Exists.intro; apply And.intro; · first | exact rfl)
   | fail
  all_goals (conv => whnf)
  rw [copied, copied]
  rfl
end Go.Proofs.Ytbppemcdphgknaa
