/- Chapter 15: what its functions come to (BlkV): the law of BlockFills. -/
import Derived.Test.YtmmenojmldollaaBlkP
set_option linter.unusedVariables false
set_option linter.unusedSimpArgs false
namespace Go.Proofs.Ytmmenojmldollaa
open Go Go.Vm
set_option maxRecDepth 100000
set_option maxHeartbeats 4000000
set_option linter.unusedSimpArgs false
set_option linter.unusedVariables false
def lastI (l : List Int) (k : Int) : Nat → Int
  | 0 => 0
  | m + 1 => if l[m]? = some k then (m : Int) else lastI l k m
theorem mem_lay_self (l : List (Int × Int)) (k v : Int) : (k, v) ∈ lay l k v := List.mem_of_getElem? (lay_get l k v)
theorem mem_lay_other {l : List (Int × Int)} {k v : Int} {x : Int × Int} (hx : x ∈ l) (hne : x.1 ≠ k) : x ∈ lay l k v := by
  induction l with
  | nil => cases hx
  | cons a r ih =>
    unfold lay
    split
    · rcases List.mem_cons.1 hx with rfl | hx
      · simp
      · exact List.mem_cons_of_mem _ (ih hx)
    · split
      · rename_i e
        rcases List.mem_cons.1 hx with rfl | hx
        · exact absurd e hne
        · exact List.mem_cons_of_mem _ hx
      · exact List.mem_cons_of_mem _ hx
theorem lay_keys_new {l : List (Int × Int)} {k v : Int} (h : has l k = false) : ((lay l k v).map Prod.fst).Perm (k :: l.map Prod.fst) := by
  induction l with
  | nil => exact List.Perm.refl _
  | cons a r ih =>
    unfold has at h
    unfold lay
    split at h
    · rename_i hk
      rw [if_pos hk, List.map_cons, List.map_cons]
      exact (List.Perm.cons _ (ih h)).trans (List.Perm.swap _ _ _)
    · rename_i hk
      have hne : ¬ a.1 = k := by simpa using h
      rw [if_neg hk, if_neg hne]
      exact List.Perm.refl _
theorem lay_keys_old {l : List (Int × Int)} {k v : Int} (h : has l k = true) : (lay l k v).map Prod.fst = l.map Prod.fst := by
  induction l with
  | nil => simp [has] at h
  | cons a r ih =>
    unfold has at h
    unfold lay
    split at h
    · rename_i hk; rw [if_pos hk, List.map_cons, List.map_cons, ih h]
    · rename_i hk
      have he : a.1 = k := by simpa using h
      rw [if_neg hk, if_pos he, List.map_cons, List.map_cons, he]
theorem has_iff {l : List (Int × Int)} (h : l.Pairwise fun a b => a.1 < b.1) (k : Int) : has l k = true ↔ k ∈ l.map Prod.fst := by
  induction l with
  | nil => simp [has]
  | cons a r ih =>
    obtain ⟨h1, h2⟩ := List.pairwise_cons.1 h
    unfold has
    rw [List.map_cons, List.mem_cons]
    split
    · rename_i hk
      rw [ih h2]
      exact ⟨.inr, fun h => h.resolve_left (by omega)⟩
    · rename_i hk
      rw [beq_iff_eq]
      refine ⟨fun e => .inl e.symm, fun h => ?_⟩
      rcases h with h | h
      · exact h.symm
      · obtain ⟨x, hx, rfl⟩ := List.mem_map.1 h
        exact absurd (h1 x hx) hk
theorem get_rank {l : List (Int × Int)} (h : l.Pairwise fun a b => a.1 < b.1) {k v : Int} (hm : (k, v) ∈ l) : l[(rank l k).toNat]? = some (k, v) := by
  induction l with
  | nil => cases hm
  | cons a r ih =>
    obtain ⟨h1, h2⟩ := List.pairwise_cons.1 h
    unfold rank
    rcases List.mem_cons.1 hm with rfl | hm
    · rw [if_neg (by simp)]; rfl
    · rw [if_pos (h1 _ hm)]
      have h0 := (rank_le r k).1
      rw [show (rank r k + 1).toNat = (rank r k).toNat + 1 by omega, List.getElem?_cons_succ]
      exact ih h2 hm
theorem rank_count {l : List (Int × Int)} (h : l.Pairwise fun a b => a.1 < b.1) (k : Int) : rank l k = ((l.map Prod.fst).countP fun x => decide (x < k) : Nat) := by
  induction l with
  | nil => rfl
  | cons a r ih =>
    obtain ⟨h1, h2⟩ := List.pairwise_cons.1 h
    unfold rank
    rw [List.map_cons, List.countP_cons]
    split
    · rename_i hk
      rw [ih h2, if_pos (by simpa using hk)]; omega
    · rename_i hk
      have hz : (r.map Prod.fst).countP (fun x => decide (x < k)) = 0 := List.countP_eq_zero.2 fun x hx => by
        obtain ⟨y, hy, rfl⟩ := List.mem_map.1 hx
        have := h1 y hy
        simp only [decide_eq_true_eq]; omega
      rw [hz, if_neg (by simpa using hk)]; rfl
structure FInv (l : List Int) (g : List (Int × Int)) (S : List Int) (i : Nat) : Prop where
  lg : Lg g
  perm : (g.map Prod.fst).Perm S
  val : ∀ k ∈ S, (k, lastI l k i) ∈ g
theorem FInv.len {l : List Int} {g : List (Int × Int)} {S : List Int} {i : Nat} (h : FInv l g S i) : g.length = S.length := by
  have := h.perm.length_eq; simpa using this
theorem FInv.mem {l : List Int} {g : List (Int × Int)} {S : List Int} {i : Nat} (h : FInv l g S i) (x : Int) : has g x = true ↔ x ∈ S := by
  rw [has_iff h.lg.srt]; exact h.perm.mem_iff
theorem FInv.start (l : List Int) : FInv l [] [] 0 := ⟨Lg.nil, List.Perm.refl _, fun k hk => by cases hk⟩
theorem FInv.there {l : List Int} {g : List (Int × Int)} {S : List Int} {i : Nat} (h : FInv l g S i) {x : Int} (hx : l[i]? = some x) (hm : x ∈ S) : (lay g x i).length ≤ 6 ∧ FInv l (lay g x i) S (i + 1) := by
  have hh := (h.mem x).2 hm
  have hl : (lay g x i).length ≤ 6 := by rw [lay_len, if_pos hh]; exact h.lg.len
  refine ⟨hl, h.lg.lay _ _ hl, by rw [lay_keys_old hh]; exact h.perm, fun k hk => ?_⟩
  unfold lastI
  rw [hx]
  by_cases e : x = k
  · subst e; rw [if_pos rfl]; exact mem_lay_self g x i
  · rw [if_neg (by simpa using e)]
    exact mem_lay_other (h.val k hk) (fun e' => e e'.symm)
theorem FInv.new {l : List Int} {g : List (Int × Int)} {S : List Int} {i : Nat} (h : FInv l g S i) {x : Int} (hx : l[i]? = some x) (hm : ¬ x ∈ S) (h6 : S.length < 6) : (lay g x i).length ≤ 6 ∧ FInv l (lay g x i) (S ++ [x]) (i + 1) := by
  have hh : has g x = false := by
    cases e : has g x
    · rfl
    · exact absurd ((h.mem x).1 e) hm
  have hl : (lay g x i).length ≤ 6 := by rw [lay_len, hh, h.len]; simp; omega
  refine ⟨hl, h.lg.lay _ _ hl, ?_, fun k hk => ?_⟩
  · exact (lay_keys_new hh).trans ((List.Perm.cons _ h.perm).trans (List.perm_append_comm (l₁ := [x]) (l₂ := S)))
  · unfold lastI
    rw [hx]
    by_cases e : x = k
    · subst e; rw [if_pos rfl]; exact mem_lay_self g x i
    · rw [if_neg (by simpa using e)]
      rcases List.mem_append.1 hk with hk | hk
      · exact mem_lay_other (h.val k hk) (fun e' => e e'.symm)
      · exact absurd (by simpa using hk : k = x).symm e
theorem FInv.full {l : List Int} {g : List (Int × Int)} {S : List Int} {i : Nat} (h : FInv l g S i) {x : Int} (hx : l[i]? = some x) (hm : ¬ x ∈ S) (h6 : ¬ S.length < 6) : ¬ (lay g x i).length ≤ 6 ∧ FInv l g S (i + 1) := by
  have hh : has g x = false := by
    cases e : has g x
    · rfl
    · exact absurd ((h.mem x).1 e) hm
  refine ⟨by rw [lay_len, hh, h.len]; simp; omega, h.lg, h.perm, fun k hk => ?_⟩
  unfold lastI
  rw [hx, if_neg (fun e => hm (by cases e; exact hk))]
  exact h.val k hk
theorem FInv.find {l : List Int} {g : List (Int × Int)} {S : List Int} {i : Nat} (h : FInv l g S i) {k : Int} (hk : k ∈ S) : has g k = true ∧ rank g k = (S.countP fun x => decide (x < k) : Nat) ∧ valB (B g) (rank g k) = lastI l k i := by
  refine ⟨(h.mem k).2 hk, ?_, ?_⟩
  · rw [rank_count h.lg.srt]
    exact congrArg _ (h.perm.countP_eq _)
  · exact (at_B h.lg.len (rank_le g k).1 (get_rank h.lg.srt (h.val k hk))).2
theorem lastI_in (l : List Int) (k : Int) (n : Nat) : 0 ≤ lastI l k n ∧ lastI l k n ≤ n := by
  induction n with
  | zero => simp [lastI]
  | succ n ih => unfold lastI; split <;> omega
theorem take_count (S : List Int) (k : Int) {m : Nat} {y : Int} (hy : S[m]? = some y) : (S.take (m + 1)).countP (fun x => decide (x < k)) = (S.take m).countP (fun x => decide (x < k)) + (if y < k then 1 else 0) := by
  have hlt := (List.getElem?_eq_some_iff.1 hy).1
  rw [List.take_add_one, hy, List.countP_append]
  congr 1
  by_cases h : y < k
  · simp [h]
  · simp [h]
theorem take_any (S : List Int) (x : Int) {m : Nat} {y : Int} (hy : S[m]? = some y) : decide (x ∈ S.take (m + 1)) = (decide (x ∈ S.take m) || (y == x)) := by
  rw [List.take_add_one, hy]
  rw [Bool.eq_iff_iff]
  simp only [decide_eq_true_eq, Bool.or_eq_true, beq_iff_eq, List.mem_append, Option.toList_some, List.mem_singleton]
  exact ⟨fun h => h.imp id Eq.symm, fun h => h.imp id Eq.symm⟩
end Go.Proofs.Ytmmenojmldollaa
