/- Chapter 15: what its functions come to (BlkT): BlockTwo. -/
import Derived.Test.YtmmenojmldollaaBlkP
set_option linter.unusedVariables false
set_option linter.unusedSimpArgs false
namespace Go.Proofs.Ytmmenojmldollaa
open Go Go.Vm
set_option maxRecDepth 100000
set_option maxHeartbeats 4000000
set_option linter.unusedSimpArgs false
set_option linter.unusedVariables false
theorem pure_take {a : List (List V)} (h : PureEs a) (n : Nat) : PureEs (a.take n) := fun e he => h e (List.mem_of_mem_take he)
theorem pure_drop {a : List (List V)} (h : PureEs a) (n : Nat) : PureEs (a.drop n) := fun e he => h e (List.mem_of_mem_drop he)
theorem pure_app {a b : List (List V)} (h : PureEs a) (h' : PureEs b) : PureEs (a ++ b) := fun e he => by
  rcases List.mem_append.1 he with he | he
  · exact h e he
  · exact h' e he
theorem pure_nil : PureEs [] := fun e he => by cases he
theorem one_p (l : List (Int × Int)) : allOne (l.map hP) 2 := fun e he => by
  obtain ⟨x, _, rfl⟩ := List.mem_map.1 he
  exact ⟨rfl, rfl⟩
theorem room_h {n m x : Nat} (h : n ≤ x) (hn : n ≤ 1000) (hm : m ≤ 1000) : 0 + n ≤ x ∧ (false = true → 0 + n = x) ∧ (n + m) * 16 ≤ roomBound ∧ n + m ≤ roomBound := ⟨by omega, (by intro h; cases h), (by unfold roomBound; omega), (by unfold roomBound; omega)⟩
abbrev bc2 (a b : Blk) : List V := [i64V a.n, u32V a.k0, u32V a.k1, u32V a.k2, u32V a.k3, u32V a.k4, u32V a.k5, i64V a.v0, i64V a.v1, i64V a.v2, i64V a.v3, i64V a.v4, i64V a.v5, i64V b.n, u32V b.k0, u32V b.k1, u32V b.k2, u32V b.k3, u32V b.k4, u32V b.k5, i64V b.v0, i64V b.v1, i64V b.v2, i64V b.v3, i64V b.v4, i64V b.v5]
def rows6 (a b c d : Blk) : List (List V) := [bc2 a b, bc2 b a, bc2 c d, bc2 d c, bc2 c (B []), bc2 (B []) c]
theorem rows_pure (a b c d : Blk) : PureEs (rows6 a b c d) := pure_of rfl
theorem rows_look (a b c d : Blk) {j : Int} (h : 0 ≤ j) (h' : j < 6) : ∃ x y, lget (rows6 a b c d) (0 + j.toNat) = some (bc2 x y) := by
  rcases (show j = 0 ∨ j = 1 ∨ j = 2 ∨ j = 3 ∨ j = 4 ∨ j = 5 by omega) with rfl | rfl | rfl | rfl | rfl | rfl <;> exact ⟨_, _, rfl⟩
def st4 (a b c d : Blk) (j : Int) : St Empty := mkSt 167 [(49, .rsl (50, 1) 26 0 6), (50, i64V 6), (51, i64V j)] [(49, .row 26 (rows6 a b c d) false)] []
abbrev R2 (l m : List (Int × Int)) : List (List V) := (((([] : List (List V)).drop 0).take 0 ++ l.map hP).drop 0).take (0 + (l.map hP).length) ++ m.map hP
abbrev T2 (l m : List (Int × Int)) : Nat := 0 + (l.map hP).length + (m.map hP).length
abbrev HE (n : Nat) : Int := IntKind.i64.wrap ((IntKind.i64.wrap ((n : Int) + 1)).tdiv 2)
theorem HE_eq {n : Nat} (h : n ≤ 100) : HE n = hf n := by
  unfold HE hf
  rw [wrapI64 (n := (n : Int) + 1) (by omega) (by omega), Int.tdiv_eq_ediv_of_nonneg (by omega), wrapI64 (by omega) (by omega)]
  omega
theorem HE_in {n : Nat} (h : n ≤ 100) : 0 ≤ HE n ∧ HE n ≤ n := by rw [HE_eq h]; unfold hf; omega
theorem r2_eq (l m : List (Int × Int)) : R2 l m = (l ++ m).map hP := by
  have e : ∀ X : List (List V), (((([] : List (List V)).drop 0).take 0 ++ X).drop 0).take (0 + X.length) = X := fun X => by simp
  unfold R2
  rw [e, List.map_append]
theorem t2_eq (l m : List (Int × Int)) : T2 l m = (l ++ m).length := by simp [T2]
theorem r2_all (l m : List (Int × Int)) : ((R2 l m).drop 0).take (T2 l m) = (l ++ m).map hP := by
  rw [r2_eq, t2_eq, List.drop_zero, List.take_of_length_le (by simp)]
theorem r2_len (l m : List (Int × Int)) : (R2 l m).length = (l ++ m).length := by rw [r2_eq, List.length_map]
theorem r2_cnt (l m : List (Int × Int)) (h : l.length + m.length ≤ 12) : (HE (T2 l m)).toNat ≤ T2 l m ∧ (R2 l m).length = T2 l m := by
  have h1 := HE_in (n := T2 l m) (by simp [T2]; omega)
  exact ⟨by omega, by rw [r2_len, t2_eq]⟩
theorem r2_pure (l m : List (Int × Int)) : PureEs (R2 l m) := by rw [r2_eq]; exact pure_p _
/-- What is made of the first part, of the rest. -/
theorem made_first (l : List (Int × Int)) (hl : l.length ≤ 6) : PTriple Try.prog gv 21 [.lst 2 (((l.map hP).drop 0).take ((HE (l.map hP).length).toNat - 0))] (bV (B (l.take (hf l.length)))) := by
  rw [HE_eq (by simp; omega), List.length_map, List.drop_zero, ← List.map_take]
  exact made_ok _ (by simp; omega)
theorem made_rest (l : List (Int × Int)) (hl : l.length ≤ 6) : PTriple Try.prog gv 21 [.lst 2 (((l.map hP).drop (HE (l.map hP).length).toNat).take ((l.map hP).length - (HE (l.map hP).length).toNat))] (bV (B (l.drop (hf l.length)))) := by
  rw [HE_eq (by simp; omega), List.length_map, Int.toNat_natCast, List.take_of_length_le (by simp), ← List.map_drop]
  exact made_ok _ (by simp; omega)
theorem all_first (l m : List (Int × Int)) (hn : l.length + m.length ≤ 12) : PTriple Try.prog gv 21 [.lst 2 (((R2 l m).drop (0 + 0)).take ((HE (T2 l m)).toNat - 0))] (bV (B ((l ++ m).take (hf (l.length + m.length))))) := by
  rw [HE_eq (by simp [T2]; omega), r2_eq, t2_eq, List.length_append, Nat.zero_add, List.drop_zero, Int.toNat_natCast, Nat.sub_zero, ← List.map_take]
  exact made_ok _ (by simp [hf]; omega)
theorem all_rest (l m : List (Int × Int)) (hn : l.length + m.length ≤ 12) : PTriple Try.prog gv 21 [.lst 2 (((R2 l m).drop (0 + (HE (T2 l m)).toNat)).take (T2 l m - (HE (T2 l m)).toNat))] (bV (B ((l ++ m).drop (hf (l.length + m.length))))) := by
  rw [HE_eq (by simp [T2]; omega), r2_eq, t2_eq, List.length_append, Nat.zero_add, Int.toNat_natCast, List.take_of_length_le (by simp), ← List.map_drop]
  exact made_ok _ (by simp [hf]; omega)
theorem all_made (l m : List (Int × Int)) {ok : Bool} {r : V} (h : PTriple Try.prog gv 15 [pV (l ++ m), .bool ok] r) : PTriple Try.prog gv 15 [.lst 2 (((R2 l m).drop 0).take (T2 l m)), .bool ok] r := by
  rw [r2_all]; exact h
theorem two_ok (a b : Blk) : PTriple Try.prog gv 4 [.agg (bc2 a b)] (.bool true) := by
  have ca := lgood_ok a
  have cb := lgood_ok b
  refine PTriple.of_body (C := cx) Try.func4 rfl (by kernel_rfl) mixed fun E hE => ?_
  repeat' (conv => whnf); first
   | (refine bcase_of (fun hr => ?_) (fun hr => ?_) <;> skip)
   | (apply And.intro; · first | exact Nat.le_of_ble_eq_true rfl | (show indep _ _ = true; kernel_rfl) | decide | exact of_decide_eq_true rfl)
   | (apply Exists.intro; apply And.intro; · first | exact rfl | exact ca | exact cb)
   | fail
  all_goals (conv => whnf)
  refine VLoop.norm [49, 50, 51] [49] ?_
  conv => whnf
  refine ⟨rows_pure a b (B (goodL a)) (B (goodL b)), ?_⟩
  conv => whnf
  clear ca cb
  refine VLoop.inv (fun j : Int => st4 a b (B (goodL a)) (B (goodL b)) j) (fun j => 0 ≤ j ∧ j ≤ 6) (fun j => (6 - j).toNat) 0 (by decide) rfl ?_
  rintro j ⟨h1, h2⟩ ih
  simp only at ih
  generalize B (goodL a) = c at ih ⊢
  generalize B (goodL b) = d at ih ⊢
  show VLoop cx E _ (st4 a b c d j) _
  refine VLoop.unroll hE mixed ?_
  conv => whnf
  refine bcase_of (fun hr => ?_) (fun hr => ?_)
  case refine_2 =>
    repeat' (conv => whnf); first
     | (refine bcase_of (fun hr => ?_) (fun hr => ?_) <;> skip)
     | (apply And.intro; · first | exact Nat.le_of_ble_eq_true rfl | (show indep _ _ = true; kernel_rfl) | decide)
     | (apply Exists.intro; apply And.intro; · first | exact rfl | exact wakes_ok)
     | fail
    all_goals (conv => whnf)
    all_goals rfl
  case refine_1 =>
    have h3 : j < 6 := by simpa using hr
    have hw : IntKind.i64.wrap (j + 1) = j + 1 := wrapI64 (by omega) (by omega)
    obtain ⟨x, y, hrow⟩ := rows_look a b c d h1 h3
    have gx := rgood_ok x
    have gy := rgood_ok y
    cases ex : goodB x with
    | false =>
      rw [ex] at gx
      cases ey : goodB y with
      | false =>
        rw [ey] at gy
        repeat' (conv => whnf); first
         | (refine bcase_of (fun hr => ?_) (fun hr => ?_) <;> (try (exfalso; simp at hr; done)))
         | (apply And.intro; · first | (have h9 := r2_cnt [] [] (by decide); dsimp only [HE, T2, R2] at h9 ⊢; omega) | exact Nat.le_of_ble_eq_true rfl | (show indep _ _ = true; kernel_rfl) | decide | exact ⟨h1, h3⟩ | exact one_p _ | ((repeat' first | exact pure_p _ | exact pure_nil | apply pure_app | apply pure_take | apply pure_drop); done) | exact HE_in (by first | (simp; omega) | (simp; done)) | exact room_h (by first | (simp; done) | (simp; omega)) (by first | omega | (simp; done) | (simp; omega)) (by first | (simp; done) | (simp; omega)) | exact allOne_of rfl | exact of_decide_eq_true rfl | exact ⟨by omega, by omega⟩ | (simp; done) | (simp; omega))
         | (apply Exists.intro; apply And.intro; · first | exact rfl | exact gx | exact gy | exact split_bad x ex | exact made_nil | exact even_bad x y (.inl ex) | exact join_bad x y (.inl ex) | exact all_made [] [] (lmade_no ([] ++ [])) | exact hrow)
         | fail
        all_goals (conv => whnf)
        refine VLoop.norm [49, 50, 51] [49] ?_
        conv => whnf
        refine ⟨rows_pure a b c d, ?_⟩
        conv => whnf
        exact ih (IntKind.i64.wrap (j + 1)) ⟨by omega, by omega⟩ (by omega)
      | true =>
        obtain ⟨m, hm, rfl⟩ := of_goodB ey
        rw [ey] at gy
        have m6 := hm.len
        repeat' (conv => whnf); first
         | (refine bcase_of (fun hr => ?_) (fun hr => ?_) <;> (try (exfalso; simp at hr; done)))
         | (apply And.intro; · first | (have h9 := r2_cnt [] m (by simp; omega); dsimp only [HE, T2, R2] at h9 ⊢; omega) | exact Nat.le_of_ble_eq_true rfl | (show indep _ _ = true; kernel_rfl) | decide | exact ⟨h1, h3⟩ | exact one_p _ | ((repeat' first | exact pure_p _ | exact pure_nil | apply pure_app | apply pure_take | apply pure_drop); done) | exact HE_in (by first | (simp; omega) | (simp; done)) | exact room_h (by first | (simp; done) | (simp; omega)) (by first | omega | (simp; done) | (simp; omega)) (by first | (simp; done) | (simp; omega)) | exact allOne_of rfl | exact of_decide_eq_true rfl | exact ⟨by omega, by omega⟩ | (simp; done) | (simp; omega))
         | (apply Exists.intro; apply And.intro; · first | exact rfl | exact gx | exact gy | exact split_bad x ex | exact made_nil | exact pairs_ok m hm.len | exact even_bad x (B m) (.inl ex) | exact join_bad x (B m) (.inl ex) | exact all_made [] m (lmade_no ([] ++ m)) | exact hrow)
         | fail
        all_goals (conv => whnf)
        refine VLoop.norm [49, 50, 51] [49] ?_
        conv => whnf
        refine ⟨rows_pure a b c d, ?_⟩
        conv => whnf
        exact ih (IntKind.i64.wrap (j + 1)) ⟨by omega, by omega⟩ (by omega)
    | true =>
      obtain ⟨l, hl, rfl⟩ := of_goodB ex
      rw [ex] at gx
      cases ey : goodB y with
      | false =>
        rw [ey] at gy
        have l6 := hl.len
        repeat' (conv => whnf); first
         | (refine bcase_of (fun hr => ?_) (fun hr => ?_) <;> (try (exfalso; simp at hr; done)))
         | (apply And.intro; · first | (have h9 := r2_cnt l [] (by simp; omega); dsimp only [HE, T2, R2] at h9 ⊢; omega) | exact Nat.le_of_ble_eq_true rfl | (show indep _ _ = true; kernel_rfl) | decide | exact ⟨h1, h3⟩ | exact one_p _ | ((repeat' first | exact pure_p _ | exact pure_nil | apply pure_app | apply pure_take | apply pure_drop); done) | exact HE_in (by first | (simp; omega) | (simp; done)) | exact room_h (by first | (simp; done) | (simp; omega)) (by first | omega | (simp; done) | (simp; omega)) (by first | (simp; done) | (simp; omega)) | exact allOne_of rfl | exact of_decide_eq_true rfl | exact ⟨by omega, by omega⟩ | (simp; done) | (simp; omega))
         | (apply Exists.intro; apply And.intro; · first | exact rfl | exact gx | exact gy | exact pairs_ok l hl.len | exact split_ok l hl | exact made_nil | exact even_bad (B l) y (.inr ey) | exact join_bad (B l) y (.inr ey) | exact all_made l [] (lmade_no (l ++ [])) | (show PTriple Try.prog gv 21 [.lst 2 _] _; with_reducible exact made_first l hl.len) | (show PTriple Try.prog gv 21 [.lst 2 _] _; with_reducible exact made_rest l hl.len) | exact hrow)
         | fail
        all_goals (conv => whnf)
        refine VLoop.norm [49, 50, 51] [49] ?_
        conv => whnf
        refine ⟨rows_pure a b c d, ?_⟩
        conv => whnf
        exact ih (IntKind.i64.wrap (j + 1)) ⟨by omega, by omega⟩ (by omega)
      | true =>
        obtain ⟨m, hm, rfl⟩ := of_goodB ey
        rw [ey] at gy
        have lp := lpairs_ok l m hl hm
        cases ha : aft l m with
        | false =>
          rw [ha] at lp
          have l6 := hl.len
          have m6 := hm.len
          repeat' (conv => whnf); first
           | (refine bcase_of (fun hr => ?_) (fun hr => ?_) <;> (try (exfalso; simp at hr; done)))
           | (apply And.intro; · first | (have h9 := r2_cnt l m (by simp; omega); dsimp only [HE, T2, R2] at h9 ⊢; omega) | exact Nat.le_of_ble_eq_true rfl | (show indep _ _ = true; kernel_rfl) | decide | exact ⟨h1, h3⟩ | exact one_p _ | ((repeat' first | exact pure_p _ | exact pure_nil | apply pure_app | apply pure_take | apply pure_drop); done) | exact HE_in (by first | (simp; omega) | (simp; done)) | exact room_h (by first | (simp; done) | (simp; omega)) (by first | omega | (simp; done) | (simp; omega)) (by first | (simp; done) | (simp; omega)) | exact allOne_of rfl | exact of_decide_eq_true rfl | exact ⟨by omega, by omega⟩ | (simp; done) | (simp; omega))
           | (apply Exists.intro; apply And.intro; · first | exact rfl | exact gx | exact gy | exact pairs_ok l hl.len | exact split_ok l hl | exact pairs_ok m hm.len | exact made_nil | exact lp | exact even_no l m hl hm ha | exact join_no l m hl hm (fun h => by rw [ha] at h; cases h.1) | exact all_made l m (lmade_no (l ++ m)) | (show PTriple Try.prog gv 21 [.lst 2 _] _; with_reducible exact made_first l hl.len) | (show PTriple Try.prog gv 21 [.lst 2 _] _; with_reducible exact made_rest l hl.len) | exact hrow)
           | fail
          all_goals (conv => whnf)
          refine VLoop.norm [49, 50, 51] [49] ?_
          conv => whnf
          refine ⟨rows_pure a b c d, ?_⟩
          conv => whnf
          exact ih (IntKind.i64.wrap (j + 1)) ⟨by omega, by omega⟩ (by omega)
        | true =>
          rw [ha] at lp
          by_cases hn : l.length + m.length ≤ 6
          case pos =>
            have l6 := hl.len
            have m6 := hm.len
            repeat' (conv => whnf); first
             | (refine bcase_of (fun hr => ?_) (fun hr => ?_) <;> (try (exfalso; simp at hr; done)))
             | (apply And.intro; · first | (have h9 := r2_cnt l m (by omega); dsimp only [HE, T2, R2] at h9 ⊢; omega) | exact Nat.le_of_ble_eq_true rfl | (show indep _ _ = true; kernel_rfl) | decide | exact ⟨h1, h3⟩ | exact one_p _ | ((repeat' first | exact pure_p _ | exact pure_nil | apply pure_app | apply pure_take | apply pure_drop); done) | exact HE_in (by first | (simp; omega) | (simp; done)) | exact room_h (by first | (simp; done) | (simp; omega)) (by first | omega | (simp; done) | (simp; omega)) (by first | (simp; done) | (simp; omega)) | exact allOne_of rfl | exact of_decide_eq_true rfl | exact ⟨by omega, by omega⟩ | (simp; done) | (simp; omega))
             | (apply Exists.intro; apply And.intro; · first | exact rfl | exact gx | exact gy | exact pairs_ok l hl.len | exact split_ok l hl | exact pairs_ok m hm.len | exact made_nil | exact lp | exact even_ok l m hl hm ha | exact join_ok l m hl hm ha hn | exact all_made l m (lmade_ok (l ++ m) (by simp; omega)) | (show PTriple Try.prog gv 21 [.lst 2 _] _; with_reducible exact made_first l hl.len) | (show PTriple Try.prog gv 21 [.lst 2 _] _; with_reducible exact made_rest l hl.len) | (show PTriple Try.prog gv 21 [.lst 2 _] _; with_reducible exact all_first l m (by have := hl.len; have := hm.len; omega)) | (show PTriple Try.prog gv 21 [.lst 2 _] _; with_reducible exact all_rest l m (by have := hl.len; have := hm.len; omega)) | exact hrow)
             | fail
            all_goals (conv => whnf)
            refine VLoop.norm [49, 50, 51] [49] ?_
            conv => whnf
            refine ⟨rows_pure a b c d, ?_⟩
            conv => whnf
            exact ih (IntKind.i64.wrap (j + 1)) ⟨by omega, by omega⟩ (by omega)
          case neg =>
            have l6 := hl.len
            have m6 := hm.len
            repeat' (conv => whnf); first
             | (refine bcase_of (fun hr => ?_) (fun hr => ?_) <;> (try (exfalso; simp at hr; done)))
             | (apply And.intro; · first | (have h9 := r2_cnt l m (by omega); dsimp only [HE, T2, R2] at h9 ⊢; omega) | exact Nat.le_of_ble_eq_true rfl | (show indep _ _ = true; kernel_rfl) | decide | exact ⟨h1, h3⟩ | exact one_p _ | ((repeat' first | exact pure_p _ | exact pure_nil | apply pure_app | apply pure_take | apply pure_drop); done) | exact HE_in (by first | (simp; omega) | (simp; done)) | exact room_h (by first | (simp; done) | (simp; omega)) (by first | omega | (simp; done) | (simp; omega)) (by first | (simp; done) | (simp; omega)) | exact allOne_of rfl | exact of_decide_eq_true rfl | exact ⟨by omega, by omega⟩ | (simp; done) | (simp; omega))
             | (apply Exists.intro; apply And.intro; · first | exact rfl | exact gx | exact gy | exact pairs_ok l hl.len | exact split_ok l hl | exact pairs_ok m hm.len | exact made_nil | exact lp | exact even_ok l m hl hm ha | exact join_no l m hl hm (fun h => hn h.2) | exact all_made l m (lmade_full (l ++ m) (by simp; omega)) | (show PTriple Try.prog gv 21 [.lst 2 _] _; with_reducible exact made_first l hl.len) | (show PTriple Try.prog gv 21 [.lst 2 _] _; with_reducible exact made_rest l hl.len) | (show PTriple Try.prog gv 21 [.lst 2 _] _; with_reducible exact all_first l m (by have := hl.len; have := hm.len; omega)) | (show PTriple Try.prog gv 21 [.lst 2 _] _; with_reducible exact all_rest l m (by have := hl.len; have := hm.len; omega)) | exact hrow)
             | fail
            all_goals (conv => whnf)
            refine VLoop.norm [49, 50, 51] [49] ?_
            conv => whnf
            refine ⟨rows_pure a b c d, ?_⟩
            conv => whnf
            exact ih (IntKind.i64.wrap (j + 1)) ⟨by omega, by omega⟩ (by omega)
end Go.Proofs.Ytmmenojmldollaa
