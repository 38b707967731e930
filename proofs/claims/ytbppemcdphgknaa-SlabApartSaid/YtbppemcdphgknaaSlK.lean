/- Chapter 14: places without chains. -/
import Derived.Test.YtbppemcdphgknaaSlJ
set_option linter.unusedVariables false
set_option linter.unusedSimpArgs false
namespace Go.Proofs.Ytbppemcdphgknaa
open Go Go.Vm
set_option maxRecDepth 100000
set_option maxHeartbeats 40000000
set_option linter.unusedSimpArgs false
set_option linter.unusedVariables false
def LF (f : Nat → Bool) (n : Nat) : List Pl := (List.range n).map fun j => ⟨f j, none⟩
theorem LF_len (f : Nat → Bool) (n : Nat) : (LF f n).length = n := by simp [LF]
theorem LF_get (f : Nat → Bool) (n i : Nat) (h : i < n) : (LF f n)[i]? = some ⟨f i, none⟩ := by simp [LF, h]
theorem LF_congr {f g : Nat → Bool} {n : Nat} (h : ∀ j, j < n → f j = g j) : LF f n = LF g n := List.map_congr_left fun j hj => by rw [h j (List.mem_range.1 hj)]
theorem LF_set (f : Nat → Bool) (n i : Nat) (b : Bool) : (LF f n).set i ⟨b, none⟩ = LF (fun j => if j = i then b else f j) n := by
  refine List.ext_getElem? fun j => ?_
  rw [List.getElem?_set]
  by_cases hj : j < n
  · rw [LF_get _ _ _ hj, LF_get _ _ _ hj, LF_len]
    by_cases e : i = j
    · subst e; simp [hj]
    · rw [if_neg e, if_neg (Ne.symm e)]
  · rw [List.getElem?_eq_none (by rw [LF_len]; omega), List.getElem?_eq_none (by rw [LF_len]; omega), LF_len]
    split
    · rw [if_neg (by omega)]
    · rfl
theorem LF_ff {f : Nat → Bool} {n k : Nat} (hk : k ≤ n) (h : ∀ i, i < k → f i = true) (h' : k < n → f k = false) : ff (LF f n) = k :=
  ff_unique (by rw [LF_len]; exact hk) (fun i hi => ⟨_, LF_get f n i (by omega), h i hi⟩) fun p hp => by
    by_cases hkn : k < n
    · rw [LF_get _ _ _ hkn] at hp; cases hp; exact h' hkn
    · rw [List.getElem?_eq_none (by rw [LF_len]; omega)] at hp; cases hp
theorem LF_tk {f : Nat → Bool} {n k : Nat} (hk : ff (LF f n) = k) : tk (LF f n) = if k < n then LF (fun j => if j = k then true else f j) n else LF (fun j => if j < n then f j else decide (j = n)) (n + 8) := by
  rw [tk_eq, hk, LF_len]
  split
  · rw [LF_set]
  · refine List.ext_getElem? fun j => ?_
    by_cases hj : j < n
    · rw [List.getElem?_append_left (by rw [LF_len]; exact hj), LF_get _ _ _ hj, LF_get _ _ _ (by omega), if_pos hj]
    · rw [List.getElem?_append_right (by rw [LF_len]; omega), LF_len]
      by_cases hj2 : j < n + 8
      · rw [LF_get _ _ _ hj2, if_neg hj]
        obtain ⟨m, rfl⟩ : ∃ m, j = n + m := ⟨j - n, by omega⟩
        have hm : m < 8 := by omega
        rw [Nat.add_sub_cancel_left]
        match m, hm with
        | 0, _ => simp [newPg]
        | 1, _ => simp [newPg]
        | 2, _ => simp [newPg]
        | 3, _ => simp [newPg]
        | 4, _ => simp [newPg]
        | 5, _ => simp [newPg]
        | 6, _ => simp [newPg]
        | 7, _ => simp [newPg]
      · rw [List.getElem?_eq_none (by simp [newPg]; omega), List.getElem?_eq_none (by rw [LF_len]; omega)]
/-- So many places are there for i. -/
def up8 (i : Nat) : Nat := (i + 7) / 8 * 8
theorem LF_next (i : Nat) : tk (LF (fun j => decide (j < i)) (up8 i)) = LF (fun j => decide (j < i + 1)) (up8 (i + 1)) ∧ ff (LF (fun j => decide (j < i)) (up8 i)) = i := by
  have hf : ff (LF (fun j => decide (j < i)) (up8 i)) = i := LF_ff (by unfold up8; omega) (fun j hj => by simpa using hj) (fun _ => by simp)
  refine ⟨?_, hf⟩
  rw [LF_tk hf]
  by_cases h : i < up8 i
  · rw [if_pos h, show up8 (i + 1) = up8 i by unfold up8 at h ⊢; omega]
    exact LF_congr fun j hj => by
      by_cases e : j = i
      · subst e; simp
      · simp [e]; omega
  · rw [if_neg h]
    have hi : up8 i = i := by unfold up8 at h ⊢; omega
    rw [show up8 (i + 1) = up8 i + 8 by unfold up8 at h ⊢; omega]
    exact LF_congr fun j hj => by
      rw [hi]
      by_cases e : j < i
      · simp [e]; omega
      · simp [e]; omega
theorem up8_8 (i : Nat) : up8 i % 8 = 0 := by unfold up8; omega
theorem up8_b {i : Nat} (h : i ≤ 3000) : up8 i ≤ 3100 := by unfold up8; omega
/-- What is free among the first i. -/
def fr (bk : Nat → Bool) (i : Nat) : List Nat := (List.range i).filter bk
theorem fr_succ (bk : Nat → Bool) (i : Nat) : fr bk (i + 1) = if bk i then fr bk i ++ [i] else fr bk i := by
  unfold fr
  rw [List.range_succ, List.filter_append]
  cases h : bk i <;> simp [h]
theorem fr_mem {bk : Nat → Bool} {i j : Nat} : j ∈ fr bk i ↔ j < i ∧ bk j = true := by simp [fr]
theorem fr_len (bk : Nat → Bool) (i : Nat) : (fr bk i).length ≤ i := by
  have := List.length_filter_le bk (List.range i)
  simpa [fr] using this
theorem fr_sorted (bk : Nat → Bool) (i : Nat) : (fr bk i).Pairwise (· < ·) := List.Pairwise.filter _ List.pairwise_lt_range
theorem drop_next {F : List Nat} (hs : F.Pairwise (· < ·)) {i x : Nat} (hx : F[i]? = some x) : (∀ j, j ∈ F.drop i ↔ j = x ∨ j ∈ F.drop (i + 1)) ∧ (∀ j ∈ F.drop (i + 1), x < j) := by
  have hlt := (List.getElem?_eq_some_iff.1 hx).1
  have e : F.drop i = x :: F.drop (i + 1) := by
    rw [List.drop_eq_getElem_cons hlt]
    congr 1
    exact (List.getElem?_eq_some_iff.1 hx).2
  refine ⟨fun j => by rw [e, List.mem_cons], fun j hj => ?_⟩
  have := hs.drop (i := i)
  rw [e, List.pairwise_cons] at this
  exact this.1 j hj
end Go.Proofs.Ytbppemcdphgknaa
