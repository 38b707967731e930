/- Chapter 15: what its functions come to (BlkP): what stands in a block. -/
import Derived.Test.YtmmenojmldollaaBlkJ
import Derived.Test.YtmmenojmldollaaBlkK
set_option linter.unusedVariables false
set_option linter.unusedSimpArgs false
namespace Go.Proofs.Ytmmenojmldollaa
open Go Go.Vm
set_option maxRecDepth 100000
set_option maxHeartbeats 4000000
set_option linter.unusedSimpArgs false
set_option linter.unusedVariables false
theorem has_lay (l : List (Int × Int)) (k v : Int) : has (lay l k v) k = true := by
  induction l with
  | nil => simp [lay, has]
  | cons a r ih =>
    unfold lay
    split
    · rename_i h; simp [has, h, ih]
    · split
      · simp [has]
      · simp [has]
theorem rank_lay (l : List (Int × Int)) (k v : Int) : rank (lay l k v) k = rank l k := by
  induction l with
  | nil => simp [lay, rank]
  | cons a r ih =>
    unfold lay
    split
    · rename_i h; simp [rank, h, ih]
    · rename_i h
      split
      · rename_i e; simp [rank, h]
      · simp [rank, h]
theorem lay_get (l : List (Int × Int)) (k v : Int) : (lay l k v)[(rank l k).toNat]? = some (k, v) := by
  induction l with
  | nil => simp [lay, rank]
  | cons a r ih =>
    unfold lay rank
    split
    · have h0 := (rank_le r k).1
      rw [show (rank r k + 1).toNat = (rank r k).toNat + 1 by omega, List.getElem?_cons_succ]
      exact ih
    · split <;> rfl
theorem out_lay (l : List (Int × Int)) (k v : Int) : out (lay l k v) k = out l k := by
  induction l with
  | nil => simp [lay, out]
  | cons a r ih =>
    unfold out at ih
    unfold lay
    split
    · rename_i h
      have hne : ¬ a.1 = k := by omega
      simp [out, hne, ih]
    · split
      · rename_i e; simp [out, e]
      · simp [out]
theorem no_key {l : List (Int × Int)} (h : l.Pairwise fun a b => a.1 < b.1) {k : Int} (hh : has l k = false) : ∀ x ∈ l, x.1 ≠ k := by
  induction l with
  | nil => intro x hx; cases hx
  | cons a r ih =>
    obtain ⟨h1, h2⟩ := List.pairwise_cons.1 h
    intro x hx
    unfold has at hh
    split at hh
    · rename_i hk
      rcases List.mem_cons.1 hx with rfl | hx
      · omega
      · exact ih h2 hh x hx
    · rename_i hk
      have hne : ¬ a.1 = k := by simpa using hh
      rcases List.mem_cons.1 hx with rfl | hx
      · exact hne
      · have := h1 x hx; omega
theorem out_no {l : List (Int × Int)} (hl : Lg l) {k : Int} (hh : has l k = false) : out l k = l := out_none (no_key hl.srt hh)
theorem at_B {l : List (Int × Int)} (hl : l.length ≤ 6) {i : Int} {x : Int × Int} (h0 : 0 ≤ i) (h : l[i.toNat]? = some x) : keyB (B l) i = x.1 ∧ valB (B l) i = x.2 := by
  have h6 : i < 6 := by have := (List.getElem?_eq_some_iff.1 h).1; omega
  rcases (show i = 0 ∨ i = 1 ∨ i = 2 ∨ i = 3 ∨ i = 4 ∨ i = 5 by omega) with rfl | rfl | rfl | rfl | rfl | rfl
  all_goals
    rcases len_cases (hl) with rfl | ⟨a, rfl⟩ | ⟨a, b, rfl⟩ | ⟨a, b, c, rfl⟩ | ⟨a, b, c, d, rfl⟩ | ⟨a, b, c, d, e, rfl⟩ | ⟨a, b, c, d, e, f, rfl⟩
  all_goals first | (exfalso; simp at h; done) | (simp at h; subst h; exact ⟨rfl, rfl⟩)
theorem val_look (x : Blk) {i : Int} (h : 0 ≤ i) (h' : i < 6) : lget (bc x) (0 + 7 + i.toNat * 1) = some (i64V (valB x i)) := by
  rcases (show i = 0 ∨ i = 1 ∨ i = 2 ∨ i = 3 ∨ i = 4 ∨ i = 5 by omega) with rfl | rfl | rfl | rfl | rfl | rfl <;> rfl
theorem aft_cut {l : List (Int × Int)} (h : l.Pairwise fun a b => a.1 < b.1) (n : Nat) : aft (l.take n) (l.drop n) = true := by
  have hs : (l.take n ++ l.drop n).Pairwise fun a b => a.1 < b.1 := by rw [List.take_append_drop]; exact h
  obtain ⟨_, _, h3⟩ := List.pairwise_append.1 hs
  unfold aft
  split
  · rfl
  · rename_i y r hd
    split
    · rfl
    · rename_i x hx
      have hx2 : x ∈ l.take n := List.mem_of_getLast? hx
      have hy : y ∈ l.drop n := by rw [hd]; simp
      simpa using h3 x hx2 y hy
end Go.Proofs.Ytmmenojmldollaa
