/- Chapter 16: what its functions come to (TrB): Find. -/
import Derived.Test.YtbppemcdphgknaaTrA
set_option linter.unusedVariables false
set_option linter.unusedSimpArgs false
namespace Go.Proofs.Ytbppemcdphgknaa.T
open Go Go.Vm
set_option maxRecDepth 100000
set_option maxHeartbeats 4000000
set_option linter.unusedSimpArgs false
set_option linter.unusedVariables false
abbrev hP (x : Int × Int) : List V := [u32V x.1, i64V x.2]
abbrev pV (l : List (Int × Int)) : V := .lst 2 (l.map hP)
def B : List (Int × Int) → Blk
  | [] => ⟨0, 0, 0, 0, 0, 0, 0, 0, 0, 0, 0, 0, 0⟩
  | [a] => ⟨1, a.1, 0, 0, 0, 0, 0, a.2, 0, 0, 0, 0, 0⟩
  | [a, b] => ⟨2, a.1, b.1, 0, 0, 0, 0, a.2, b.2, 0, 0, 0, 0⟩
  | [a, b, c] => ⟨3, a.1, b.1, c.1, 0, 0, 0, a.2, b.2, c.2, 0, 0, 0⟩
  | [a, b, c, d] => ⟨4, a.1, b.1, c.1, d.1, 0, 0, a.2, b.2, c.2, d.2, 0, 0⟩
  | [a, b, c, d, e] => ⟨5, a.1, b.1, c.1, d.1, e.1, 0, a.2, b.2, c.2, d.2, e.2, 0⟩
  | [a, b, c, d, e, f] => ⟨6, a.1, b.1, c.1, d.1, e.1, f.1, a.2, b.2, c.2, d.2, e.2, f.2⟩
  | _ => ⟨7, 0, 0, 0, 0, 0, 0, 0, 0, 0, 0, 0, 0⟩
structure Lg (l : List (Int × Int)) : Prop where
  srt : l.Pairwise fun a b => a.1 < b.1
  len : l.length ≤ 6
theorem len_cases {l : List (Int × Int)} (h : l.length ≤ 6) : (l = []) ∨ (∃ a, l = [a]) ∨ (∃ a b, l = [a, b]) ∨ (∃ a b c, l = [a, b, c]) ∨ (∃ a b c d, l = [a, b, c, d]) ∨ (∃ a b c d e, l = [a, b, c, d, e]) ∨ (∃ a b c d e f, l = [a, b, c, d, e, f]) := by
  match l, h with
  | [], _ => exact .inl rfl
  | [a], _ => exact .inr (.inl ⟨a, rfl⟩)
  | [a, b], _ => exact .inr (.inr (.inl ⟨a, b, rfl⟩))
  | [a, b, c], _ => exact .inr (.inr (.inr (.inl ⟨a, b, c, rfl⟩)))
  | [a, b, c, d], _ => exact .inr (.inr (.inr (.inr (.inl ⟨a, b, c, d, rfl⟩))))
  | [a, b, c, d, e], _ => exact .inr (.inr (.inr (.inr (.inr (.inl ⟨a, b, c, d, e, rfl⟩)))))
  | [a, b, c, d, e, f], _ => exact .inr (.inr (.inr (.inr (.inr (.inr (⟨a, b, c, d, e, f, rfl⟩))))))
theorem goodB_B {l : List (Int × Int)} (hl : Lg l) : goodB (B l) = true := by
  obtain ⟨h, hn⟩ := hl
  rw [goodB_iff]
  rcases len_cases (hn) with rfl | ⟨a, rfl⟩ | ⟨a, b, rfl⟩ | ⟨a, b, c, rfl⟩ | ⟨a, b, c, d, rfl⟩ | ⟨a, b, c, d, e, rfl⟩ | ⟨a, b, c, d, e, f, rfl⟩
  all_goals ((try simp only [List.pairwise_cons, List.mem_cons, List.not_mem_nil, forall_eq_or_imp, or_false, forall_eq] at h); dsimp only [GoodP, B]; omega)
theorem of_goodB {b : Blk} (h : goodB b = true) : ∃ l, Lg l ∧ B l = b := by
  rw [goodB_iff] at h
  obtain ⟨n, k0, k1, k2, k3, k4, k5, v0, v1, v2, v3, v4, v5⟩ := b
  dsimp only [GoodP] at h
  have hn : n = 0 ∨ n = 1 ∨ n = 2 ∨ n = 3 ∨ n = 4 ∨ n = 5 ∨ n = 6 := by omega
  rcases hn with rfl | rfl | rfl | rfl | rfl | rfl | rfl
  · refine ⟨[], ⟨?_, by simp⟩, ?_⟩
    · simp [List.pairwise_cons]
    · simp only [B, Blk.mk.injEq, true_and, and_true]; omega
  · refine ⟨[(k0, v0)], ⟨?_, by simp⟩, ?_⟩
    · simp [List.pairwise_cons]
    · simp only [B, Blk.mk.injEq, true_and, and_true]; omega
  · refine ⟨[(k0, v0), (k1, v1)], ⟨?_, by simp⟩, ?_⟩
    · simp [List.pairwise_cons]; omega
    · simp only [B, Blk.mk.injEq, true_and, and_true]; omega
  · refine ⟨[(k0, v0), (k1, v1), (k2, v2)], ⟨?_, by simp⟩, ?_⟩
    · simp [List.pairwise_cons]; omega
    · simp only [B, Blk.mk.injEq, true_and, and_true]; omega
  · refine ⟨[(k0, v0), (k1, v1), (k2, v2), (k3, v3)], ⟨?_, by simp⟩, ?_⟩
    · simp [List.pairwise_cons]; omega
    · simp only [B, Blk.mk.injEq, true_and, and_true]; omega
  · refine ⟨[(k0, v0), (k1, v1), (k2, v2), (k3, v3), (k4, v4)], ⟨?_, by simp⟩, ?_⟩
    · simp [List.pairwise_cons]; omega
    · simp only [B, Blk.mk.injEq, true_and, and_true]; omega
  · refine ⟨[(k0, v0), (k1, v1), (k2, v2), (k3, v3), (k4, v4), (k5, v5)], ⟨?_, by simp⟩, ?_⟩
    · simp [List.pairwise_cons]; omega
    · simp only [B, Blk.mk.injEq, true_and, and_true]
def rank : List (Int × Int) → Int → Int
  | [], _ => 0
  | a :: r, k => if a.1 < k then rank r k + 1 else 0
def has : List (Int × Int) → Int → Bool
  | [], _ => false
  | a :: r, k => if a.1 < k then has r k else a.1 == k
def lay : List (Int × Int) → Int → Int → List (Int × Int)
  | [], k, v => [(k, v)]
  | a :: r, k, v => if a.1 < k then a :: lay r k v else if a.1 = k then (k, v) :: r else (k, v) :: a :: r
def out (l : List (Int × Int)) (k : Int) : List (Int × Int) := l.filter fun x => x.1 != k
theorem find_ok (l : List (Int × Int)) (hl : Lg l) (k : Int) : PTriple Try.prog gv 52 [bV (B l), u32V k] (.tup [i64V (rank l k), .bool (has l k)]) := by
  have c1 := good_ok (B l)
  rw [goodB_B hl] at c1
  rcases len_cases (hl.len) with rfl | ⟨a, rfl⟩ | ⟨a, b, rfl⟩ | ⟨a, b, c, rfl⟩ | ⟨a, b, c, d, rfl⟩ | ⟨a, b, c, d, e, rfl⟩ | ⟨a, b, c, d, e, f, rfl⟩
  all_goals clear hl
  all_goals refine PTriple.of_body (C := cx) Try.func52 rfl (by kernel_rfl) mixed fun E hE => ?_
  all_goals
    repeat' (conv => whnf); first
     | (refine bcase_of (fun hr => ?_) (fun hr => ?_) <;> (try simp only [decide_eq_true_eq, decide_eq_false_iff_not] at hr) <;> (try dsimp only [B] at hr))
     | (apply And.intro; · first | exact Nat.le_of_ble_eq_true rfl | decide | (show indep _ _ = true; kernel_rfl))
     | (apply Exists.intro; apply And.intro; · first | exact rfl | exact c1)
     | refine VLoop.unroll hE mixed ?_
     | fail
  all_goals (conv => whnf)
  all_goals first | rfl | (simp [rank, has, *]; done) | (simp [rank, has, *]; rfl)
theorem find_bad (b : Blk) (h : goodB b = false) (k : Int) : PTriple Try.prog gv 52 [bV b, u32V k] (.tup [i64V 0, .bool false]) := by
  have c1 := good_ok b
  rw [h] at c1
  refine PTriple.of_body (C := cx) Try.func52 rfl (by kernel_rfl) mixed fun E hE => ?_
  repeat' (conv => whnf); first
   | (refine bcase_of (fun hr => ?_) (fun hr => ?_) <;> (try simp only [decide_eq_true_eq, decide_eq_false_iff_not] at hr) <;> (try dsimp only [B] at hr))
   | (apply And.intro; · first | exact Nat.le_of_ble_eq_true rfl | decide | (show indep _ _ = true; kernel_rfl))
   | (apply Exists.intro; apply And.intro; · first | exact rfl | exact c1)
   | refine VLoop.unroll hE mixed ?_
   | fail
  all_goals (conv => whnf)
  all_goals rfl
end Go.Proofs.Ytbppemcdphgknaa.T
