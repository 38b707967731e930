/- Chapter 15: what its functions come to (BlkJ): good, made, pairs. -/
import Derived.Test.YtmmenojmldollaaBlkI
set_option linter.unusedVariables false
set_option linter.unusedSimpArgs false
namespace Go.Proofs.Ytmmenojmldollaa
open Go Go.Vm
set_option maxRecDepth 100000
set_option maxHeartbeats 4000000
set_option linter.unusedSimpArgs false
set_option linter.unusedVariables false
theorem pure_p (l : List (Int × Int)) : PureEs (l.map hP) := fun e he v hv => by
  obtain ⟨x, _, rfl⟩ := List.mem_map.1 he
  simp at hv
  rcases hv with rfl | rfl
  · exact .int _ _
  · exact .int _ _
theorem lmade_ok (l : List (Int × Int)) (h : l.length ≤ 6) : PTriple Try.prog gv 15 [pV l, .bool true] (.tup [bV (B l), .bool true]) := by
  have c1 := made_ok l h
  have e : (l.map hP).length = l.length := by simp
  refine PTriple.of_body (C := cx) Try.func15 rfl (by kernel_rfl) mixed fun E hE => ?_
  repeat' (conv => whnf); first
   | (refine bcase_of (fun hr => ?_) (fun hr => ?_) <;> (try simp only [e, decide_eq_true_eq, decide_eq_false_iff_not] at hr) <;> try (exfalso; omega))
   | (apply And.intro; · first | exact Nat.le_of_ble_eq_true rfl | (show indep _ _ = true; kernel_rfl) | decide | exact pure_p _)
   | (apply Exists.intro; apply And.intro; · first | exact rfl | exact c1)
   | fail
  all_goals (conv => whnf)
  all_goals rfl
theorem lmade_no (l : List (Int × Int)) : PTriple Try.prog gv 15 [pV l, .bool false] (.tup [bV (B []), .bool false]) := by
  refine PTriple.of_body (C := cx) Try.func15 rfl (by kernel_rfl) mixed fun E hE => ?_
  repeat' (conv => whnf); first
   | (refine bcase_of (fun hr => ?_) (fun hr => ?_) <;> skip)
   | (apply And.intro; · first | exact Nat.le_of_ble_eq_true rfl | (show indep _ _ = true; kernel_rfl) | decide)
   | (apply Exists.intro; apply And.intro; · first | exact rfl)
   | fail
  all_goals (conv => whnf)
  all_goals rfl
theorem lmade_full (l : List (Int × Int)) (h : ¬ l.length ≤ 6) : PTriple Try.prog gv 15 [pV l, .bool true] (.tup [bV (B []), .bool false]) := by
  have e : (l.map hP).length = l.length := by simp
  refine PTriple.of_body (C := cx) Try.func15 rfl (by kernel_rfl) mixed fun E hE => ?_
  repeat' (conv => whnf); first
   | (refine bcase_of (fun hr => ?_) (fun hr => ?_) <;> (try simp only [e, decide_eq_true_eq, decide_eq_false_iff_not] at hr) <;> try (exfalso; omega))
   | (apply And.intro; · first | exact Nat.le_of_ble_eq_true rfl | (show indep _ _ = true; kernel_rfl) | decide | exact pure_p _)
   | (apply Exists.intro; apply And.intro; · first | exact rfl)
   | fail
  all_goals (conv => whnf)
  all_goals rfl
theorem lpairs_ok (l m : List (Int × Int)) (hl : Lg l) (hm : Lg m) : PTriple Try.prog gv 22 [bV (B l), bV (B m)] (.bool (aft l m)) := by
  have c1 := pairs_ok l hl.len
  have c2 := pairs_ok m hm.len
  have c3 := after_ok l m hl.len
  refine PTriple.of_body (C := cx) Try.func22 rfl (by kernel_rfl) mixed fun E hE => ?_
  repeat' (conv => whnf); first
   | (refine bcase_of (fun hr => ?_) (fun hr => ?_) <;> skip)
   | (apply And.intro; · first | exact Nat.le_of_ble_eq_true rfl | (show indep _ _ = true; kernel_rfl) | decide | exact pure_p _)
   | (apply Exists.intro; apply And.intro; · first | exact rfl | exact c1 | exact c2 | exact c3)
   | fail
  all_goals (conv => whnf)
  all_goals (rw [hr]; rfl)
theorem lay_mem {l : List (Int × Int)} {k v : Int} {x : Int × Int} (h : x ∈ lay l k v) : x = (k, v) ∨ x ∈ l := by
  induction l with
  | nil => simp [lay] at h; exact .inl h
  | cons a r ih =>
    unfold lay at h
    split at h
    · rcases List.mem_cons.1 h with rfl | h
      · exact .inr (by simp)
      · rcases ih h with h | h
        · exact .inl h
        · exact .inr (List.mem_cons_of_mem _ h)
    · split at h
      · rcases List.mem_cons.1 h with rfl | h
        · exact .inl rfl
        · exact .inr (List.mem_cons_of_mem _ h)
      · rcases List.mem_cons.1 h with rfl | h
        · exact .inl rfl
        · exact .inr h
theorem lay_srt {l : List (Int × Int)} (h : l.Pairwise fun a b => a.1 < b.1) (k v : Int) : (lay l k v).Pairwise fun a b => a.1 < b.1 := by
  induction l with
  | nil => simp [lay]
  | cons a r ih =>
    obtain ⟨h1, h2⟩ := List.pairwise_cons.1 h
    unfold lay
    split
    · rename_i hk
      refine List.pairwise_cons.2 ⟨fun x hx => ?_, ih h2⟩
      rcases lay_mem hx with rfl | hx
      · exact hk
      · exact h1 x hx
    · rename_i hk
      split
      · rename_i e
        exact List.pairwise_cons.2 ⟨fun x hx => by have := h1 x hx; show k < x.1; omega, h2⟩
      · rename_i e
        refine List.pairwise_cons.2 ⟨fun x hx => ?_, h⟩
        rcases List.mem_cons.1 hx with rfl | hx
        · show k < x.1; omega
        · have := h1 x hx; show k < x.1; omega
theorem lay_le (l : List (Int × Int)) (k v : Int) : (lay l k v).length ≤ l.length + 1 := by
  rw [lay_len]; split <;> omega
theorem Lg.lay {l : List (Int × Int)} (h : Lg l) (k v : Int) (hn : (lay l k v).length ≤ 6) : Lg (lay l k v) := ⟨lay_srt h.srt k v, hn⟩
theorem Lg.nil : Lg [] := ⟨List.Pairwise.nil, by decide⟩
/-- What is laid one behind the other. -/
def lays : List (Int × Int) → List (Int × Int) → List (Int × Int)
  | l, [] => l
  | l, x :: r => lays (lay l x.1 x.2) r
theorem lays_Lg : ∀ (r l : List (Int × Int)), Lg l → l.length + r.length ≤ 6 → Lg (lays l r)
  | [], l, h, _ => h
  | x :: r, l, h, hn => by
    have h1 := lay_le l x.1 x.2
    simp only [List.length_cons] at hn
    exact lays_Lg r _ (h.lay _ _ (by omega)) (by omega)
def goodL (b : Blk) : List (Int × Int) := lays [] ((if b.n ≤ 0 then [] else if b.n = 1 then [(b.k0, b.v0)] else if b.n = 2 then [(b.k0, b.v0), (b.k1, b.v1)] else if b.n = 3 then [(b.k0, b.v0), (b.k1, b.v1), (b.k2, b.v2)] else if b.n = 4 then [(b.k0, b.v0), (b.k1, b.v1), (b.k2, b.v2), (b.k3, b.v3)] else if b.n = 5 then [(b.k0, b.v0), (b.k1, b.v1), (b.k2, b.v2), (b.k3, b.v3), (b.k4, b.v4)] else [(b.k0, b.v0), (b.k1, b.v1), (b.k2, b.v2), (b.k3, b.v3), (b.k4, b.v4), (b.k5, b.v5)]))
theorem goodL_Lg (b : Blk) : Lg (goodL b) := by
  unfold goodL
  refine lays_Lg _ _ Lg.nil ?_
  repeat' split
  all_goals simp
theorem rlay_nil (k v : Int) : PTriple Try.prog gv 16 [.nils, u32V k, i64V v] (pV (lay [] k v)) := (rlay_ok [] (by decide) k v).nilled (.nils (.same (.same .nil)))
theorem made_nil : PTriple Try.prog gv 21 [.nils] (bV (B [])) := (made_ok [] (by decide)).nilled (.nils .nil)
theorem lgood_ok (b : Blk) : PTriple Try.prog gv 8 [bV b] (bV (B (goodL b))) := by
  obtain ⟨n, k0, k1, k2, k3, k4, k5, v0, v1, v2, v3, v4, v5⟩ := b
  have hn : n ≤ 0 ∨ n = 1 ∨ n = 2 ∨ n = 3 ∨ n = 4 ∨ n = 5 ∨ 6 ≤ n := by omega
  rcases hn with hn | rfl | rfl | rfl | rfl | rfl | hn
  · have e : goodL ⟨n, k0, k1, k2, k3, k4, k5, v0, v1, v2, v3, v4, v5⟩ = lays [] [] := by
      unfold goodL
      dsimp only
      rw [if_pos (show n ≤ 0 by omega)]
    rw [e]
    dsimp only [bV, bc]
    show PTriple _ _ _ _ (.agg (bc (B [])))
    refine PTriple.of_body (C := cx) Try.func8 rfl (by kernel_rfl) mixed fun E hE => ?_
    repeat' (conv => whnf); first
     | (refine bcase_of (fun hr => ?_) (fun hr => ?_) <;> (try simp only [decide_eq_true_eq, decide_eq_false_iff_not] at hr) <;> (try (exfalso; omega)))
     | (apply And.intro; · first | exact Nat.le_of_ble_eq_true rfl | (show indep _ _ = true; kernel_rfl) | decide | exact pure_p _)
     | (apply Exists.intro; apply And.intro; · first | exact rfl | exact made_nil)
     | refine VLoop.unroll hE mixed ?_
     | fail
    all_goals (conv => whnf)
    all_goals rfl
  · have e : goodL ⟨1, k0, k1, k2, k3, k4, k5, v0, v1, v2, v3, v4, v5⟩ = lays [] [(k0, v0)] := rfl
    rw [e]
    dsimp only [bV, bc]
    have l0 : (lay [] k0 v0).length ≤ 1 := by have := lay_le [] k0 v0; (try simp only [List.length_nil] at this); omega
    show PTriple _ _ _ _ (.agg (bc (B (lay [] k0 v0))))
    refine PTriple.of_body (C := cx) Try.func8 rfl (by kernel_rfl) mixed fun E hE => ?_
    repeat' (conv => whnf); first
     | (refine bcase_of (fun hr => ?_) (fun hr => ?_) <;> (try simp only [decide_eq_true_eq, decide_eq_false_iff_not] at hr) <;> (try (exfalso; omega)))
     | (apply And.intro; · first | exact Nat.le_of_ble_eq_true rfl | (show indep _ _ = true; kernel_rfl) | decide | exact pure_p _)
     | (apply Exists.intro; apply And.intro; · first | exact rfl | exact rlay_nil k0 v0 | exact made_ok (lay [] k0 v0) (by omega))
     | refine VLoop.unroll hE mixed ?_
     | fail
    all_goals (conv => whnf)
    all_goals rfl
  · have e : goodL ⟨2, k0, k1, k2, k3, k4, k5, v0, v1, v2, v3, v4, v5⟩ = lays [] [(k0, v0), (k1, v1)] := rfl
    rw [e]
    dsimp only [bV, bc]
    have l0 : (lay [] k0 v0).length ≤ 1 := by have := lay_le [] k0 v0; (try simp only [List.length_nil] at this); omega
    have l1 : (lay (lay [] k0 v0) k1 v1).length ≤ 2 := by have := lay_le (lay [] k0 v0) k1 v1; (try simp only [List.length_nil] at this); omega
    show PTriple _ _ _ _ (.agg (bc (B (lay (lay [] k0 v0) k1 v1))))
    refine PTriple.of_body (C := cx) Try.func8 rfl (by kernel_rfl) mixed fun E hE => ?_
    repeat' (conv => whnf); first
     | (refine bcase_of (fun hr => ?_) (fun hr => ?_) <;> (try simp only [decide_eq_true_eq, decide_eq_false_iff_not] at hr) <;> (try (exfalso; omega)))
     | (apply And.intro; · first | exact Nat.le_of_ble_eq_true rfl | (show indep _ _ = true; kernel_rfl) | decide | exact pure_p _)
     | (apply Exists.intro; apply And.intro; · first | exact rfl | exact rlay_nil k0 v0 | exact rlay_ok (lay [] k0 v0) (by omega) k1 v1 | exact made_ok (lay (lay [] k0 v0) k1 v1) (by omega))
     | refine VLoop.unroll hE mixed ?_
     | fail
    all_goals (conv => whnf)
    all_goals rfl
  · have e : goodL ⟨3, k0, k1, k2, k3, k4, k5, v0, v1, v2, v3, v4, v5⟩ = lays [] [(k0, v0), (k1, v1), (k2, v2)] := rfl
    rw [e]
    dsimp only [bV, bc]
    have l0 : (lay [] k0 v0).length ≤ 1 := by have := lay_le [] k0 v0; (try simp only [List.length_nil] at this); omega
    have l1 : (lay (lay [] k0 v0) k1 v1).length ≤ 2 := by have := lay_le (lay [] k0 v0) k1 v1; (try simp only [List.length_nil] at this); omega
    have l2 : (lay (lay (lay [] k0 v0) k1 v1) k2 v2).length ≤ 3 := by have := lay_le (lay (lay [] k0 v0) k1 v1) k2 v2; (try simp only [List.length_nil] at this); omega
    show PTriple _ _ _ _ (.agg (bc (B (lay (lay (lay [] k0 v0) k1 v1) k2 v2))))
    refine PTriple.of_body (C := cx) Try.func8 rfl (by kernel_rfl) mixed fun E hE => ?_
    repeat' (conv => whnf); first
     | (refine bcase_of (fun hr => ?_) (fun hr => ?_) <;> (try simp only [decide_eq_true_eq, decide_eq_false_iff_not] at hr) <;> (try (exfalso; omega)))
     | (apply And.intro; · first | exact Nat.le_of_ble_eq_true rfl | (show indep _ _ = true; kernel_rfl) | decide | exact pure_p _)
     | (apply Exists.intro; apply And.intro; · first | exact rfl | exact rlay_nil k0 v0 | exact rlay_ok (lay [] k0 v0) (by omega) k1 v1 | exact rlay_ok (lay (lay [] k0 v0) k1 v1) (by omega) k2 v2 | exact made_ok (lay (lay (lay [] k0 v0) k1 v1) k2 v2) (by omega))
     | refine VLoop.unroll hE mixed ?_
     | fail
    all_goals (conv => whnf)
    all_goals rfl
  · have e : goodL ⟨4, k0, k1, k2, k3, k4, k5, v0, v1, v2, v3, v4, v5⟩ = lays [] [(k0, v0), (k1, v1), (k2, v2), (k3, v3)] := rfl
    rw [e]
    dsimp only [bV, bc]
    have l0 : (lay [] k0 v0).length ≤ 1 := by have := lay_le [] k0 v0; (try simp only [List.length_nil] at this); omega
    have l1 : (lay (lay [] k0 v0) k1 v1).length ≤ 2 := by have := lay_le (lay [] k0 v0) k1 v1; (try simp only [List.length_nil] at this); omega
    have l2 : (lay (lay (lay [] k0 v0) k1 v1) k2 v2).length ≤ 3 := by have := lay_le (lay (lay [] k0 v0) k1 v1) k2 v2; (try simp only [List.length_nil] at this); omega
    have l3 : (lay (lay (lay (lay [] k0 v0) k1 v1) k2 v2) k3 v3).length ≤ 4 := by have := lay_le (lay (lay (lay [] k0 v0) k1 v1) k2 v2) k3 v3; (try simp only [List.length_nil] at this); omega
    show PTriple _ _ _ _ (.agg (bc (B (lay (lay (lay (lay [] k0 v0) k1 v1) k2 v2) k3 v3))))
    refine PTriple.of_body (C := cx) Try.func8 rfl (by kernel_rfl) mixed fun E hE => ?_
    repeat' (conv => whnf); first
     | (refine bcase_of (fun hr => ?_) (fun hr => ?_) <;> (try simp only [decide_eq_true_eq, decide_eq_false_iff_not] at hr) <;> (try (exfalso; omega)))
     | (apply And.intro; · first | exact Nat.le_of_ble_eq_true rfl | (show indep _ _ = true; kernel_rfl) | decide | exact pure_p _)
     | (apply Exists.intro; apply And.intro; · first | exact rfl | exact rlay_nil k0 v0 | exact rlay_ok (lay [] k0 v0) (by omega) k1 v1 | exact rlay_ok (lay (lay [] k0 v0) k1 v1) (by omega) k2 v2 | exact rlay_ok (lay (lay (lay [] k0 v0) k1 v1) k2 v2) (by omega) k3 v3 | exact made_ok (lay (lay (lay (lay [] k0 v0) k1 v1) k2 v2) k3 v3) (by omega))
     | refine VLoop.unroll hE mixed ?_
     | fail
    all_goals (conv => whnf)
    all_goals rfl
  · have e : goodL ⟨5, k0, k1, k2, k3, k4, k5, v0, v1, v2, v3, v4, v5⟩ = lays [] [(k0, v0), (k1, v1), (k2, v2), (k3, v3), (k4, v4)] := rfl
    rw [e]
    dsimp only [bV, bc]
    have l0 : (lay [] k0 v0).length ≤ 1 := by have := lay_le [] k0 v0; (try simp only [List.length_nil] at this); omega
    have l1 : (lay (lay [] k0 v0) k1 v1).length ≤ 2 := by have := lay_le (lay [] k0 v0) k1 v1; (try simp only [List.length_nil] at this); omega
    have l2 : (lay (lay (lay [] k0 v0) k1 v1) k2 v2).length ≤ 3 := by have := lay_le (lay (lay [] k0 v0) k1 v1) k2 v2; (try simp only [List.length_nil] at this); omega
    have l3 : (lay (lay (lay (lay [] k0 v0) k1 v1) k2 v2) k3 v3).length ≤ 4 := by have := lay_le (lay (lay (lay [] k0 v0) k1 v1) k2 v2) k3 v3; (try simp only [List.length_nil] at this); omega
    have l4 : (lay (lay (lay (lay (lay [] k0 v0) k1 v1) k2 v2) k3 v3) k4 v4).length ≤ 5 := by have := lay_le (lay (lay (lay (lay [] k0 v0) k1 v1) k2 v2) k3 v3) k4 v4; (try simp only [List.length_nil] at this); omega
    show PTriple _ _ _ _ (.agg (bc (B (lay (lay (lay (lay (lay [] k0 v0) k1 v1) k2 v2) k3 v3) k4 v4))))
    refine PTriple.of_body (C := cx) Try.func8 rfl (by kernel_rfl) mixed fun E hE => ?_
    repeat' (conv => whnf); first
     | (refine bcase_of (fun hr => ?_) (fun hr => ?_) <;> (try simp only [decide_eq_true_eq, decide_eq_false_iff_not] at hr) <;> (try (exfalso; omega)))
     | (apply And.intro; · first | exact Nat.le_of_ble_eq_true rfl | (show indep _ _ = true; kernel_rfl) | decide | exact pure_p _)
     | (apply Exists.intro; apply And.intro; · first | exact rfl | exact rlay_nil k0 v0 | exact rlay_ok (lay [] k0 v0) (by omega) k1 v1 | exact rlay_ok (lay (lay [] k0 v0) k1 v1) (by omega) k2 v2 | exact rlay_ok (lay (lay (lay [] k0 v0) k1 v1) k2 v2) (by omega) k3 v3 | exact rlay_ok (lay (lay (lay (lay [] k0 v0) k1 v1) k2 v2) k3 v3) (by omega) k4 v4 | exact made_ok (lay (lay (lay (lay (lay [] k0 v0) k1 v1) k2 v2) k3 v3) k4 v4) (by omega))
     | refine VLoop.unroll hE mixed ?_
     | fail
    all_goals (conv => whnf)
    all_goals rfl
  · have e : goodL ⟨n, k0, k1, k2, k3, k4, k5, v0, v1, v2, v3, v4, v5⟩ = lays [] [(k0, v0), (k1, v1), (k2, v2), (k3, v3), (k4, v4), (k5, v5)] := by
      unfold goodL
      dsimp only
      rw [if_neg (show ¬ n ≤ 0 by omega), if_neg (show ¬ n = 1 by omega), if_neg (show ¬ n = 2 by omega), if_neg (show ¬ n = 3 by omega), if_neg (show ¬ n = 4 by omega), if_neg (show ¬ n = 5 by omega)]
    rw [e]
    dsimp only [bV, bc]
    have l0 : (lay [] k0 v0).length ≤ 1 := by have := lay_le [] k0 v0; (try simp only [List.length_nil] at this); omega
    have l1 : (lay (lay [] k0 v0) k1 v1).length ≤ 2 := by have := lay_le (lay [] k0 v0) k1 v1; (try simp only [List.length_nil] at this); omega
    have l2 : (lay (lay (lay [] k0 v0) k1 v1) k2 v2).length ≤ 3 := by have := lay_le (lay (lay [] k0 v0) k1 v1) k2 v2; (try simp only [List.length_nil] at this); omega
    have l3 : (lay (lay (lay (lay [] k0 v0) k1 v1) k2 v2) k3 v3).length ≤ 4 := by have := lay_le (lay (lay (lay [] k0 v0) k1 v1) k2 v2) k3 v3; (try simp only [List.length_nil] at this); omega
    have l4 : (lay (lay (lay (lay (lay [] k0 v0) k1 v1) k2 v2) k3 v3) k4 v4).length ≤ 5 := by have := lay_le (lay (lay (lay (lay [] k0 v0) k1 v1) k2 v2) k3 v3) k4 v4; (try simp only [List.length_nil] at this); omega
    have l5 : (lay (lay (lay (lay (lay (lay [] k0 v0) k1 v1) k2 v2) k3 v3) k4 v4) k5 v5).length ≤ 6 := by have := lay_le (lay (lay (lay (lay (lay [] k0 v0) k1 v1) k2 v2) k3 v3) k4 v4) k5 v5; (try simp only [List.length_nil] at this); omega
    show PTriple _ _ _ _ (.agg (bc (B (lay (lay (lay (lay (lay (lay [] k0 v0) k1 v1) k2 v2) k3 v3) k4 v4) k5 v5))))
    refine PTriple.of_body (C := cx) Try.func8 rfl (by kernel_rfl) mixed fun E hE => ?_
    repeat' (conv => whnf); first
     | (refine bcase_of (fun hr => ?_) (fun hr => ?_) <;> (try simp only [decide_eq_true_eq, decide_eq_false_iff_not] at hr) <;> (try (exfalso; omega)) <;> try (first | exact absurd (show (0 : Int) < n by omega) hr | exact absurd (show (1 : Int) < n by omega) hr | exact absurd (show (2 : Int) < n by omega) hr | exact absurd (show (3 : Int) < n by omega) hr | exact absurd (show (4 : Int) < n by omega) hr | exact absurd (show (5 : Int) < n by omega) hr))
     | (apply And.intro; · first | exact Nat.le_of_ble_eq_true rfl | (show indep _ _ = true; kernel_rfl) | decide | exact pure_p _)
     | (apply Exists.intro; apply And.intro; · first | exact rfl | exact rlay_nil k0 v0 | exact rlay_ok (lay [] k0 v0) (by omega) k1 v1 | exact rlay_ok (lay (lay [] k0 v0) k1 v1) (by omega) k2 v2 | exact rlay_ok (lay (lay (lay [] k0 v0) k1 v1) k2 v2) (by omega) k3 v3 | exact rlay_ok (lay (lay (lay (lay [] k0 v0) k1 v1) k2 v2) k3 v3) (by omega) k4 v4 | exact rlay_ok (lay (lay (lay (lay (lay [] k0 v0) k1 v1) k2 v2) k3 v3) k4 v4) (by omega) k5 v5 | exact made_ok (lay (lay (lay (lay (lay (lay [] k0 v0) k1 v1) k2 v2) k3 v3) k4 v4) k5 v5) (by omega))
     | refine VLoop.unroll hE mixed ?_
     | fail
    all_goals (conv => whnf)
    all_goals rfl
end Go.Proofs.Ytmmenojmldollaa
