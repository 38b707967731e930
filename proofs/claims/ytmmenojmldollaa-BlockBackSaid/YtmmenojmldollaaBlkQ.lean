/- Chapter 15: what its functions come to (BlkQ): BlockBack. -/
import Derived.Test.YtmmenojmldollaaBlkP
set_option linter.unusedVariables false
set_option linter.unusedSimpArgs false
namespace Go.Proofs.Ytmmenojmldollaa
open Go Go.Vm
set_option maxRecDepth 100000
set_option maxHeartbeats 4000000
set_option linter.unusedSimpArgs false
set_option linter.unusedVariables false
theorem key_look (x : Blk) {i : Int} (h : 0 ≤ i) (h' : i < 6) : lget (bc x) (0 + 1 + i.toNat * 1) = some (u32V (keyB x i)) := by
  rcases (show i = 0 ∨ i = 1 ∨ i = 2 ∨ i = 3 ∨ i = 4 ∨ i = 5 by omega) with rfl | rfl | rfl | rfl | rfl | rfl <;> rfl
theorem back_of (b : Blk) (g : List (Int × Int)) (hg : goodL b = g) (k v : Int) : PTriple Try.prog gv 5 [bV b, u32V k, i64V v] (.bool true) := by
  have c8 := lgood_ok b
  have gl := goodL_Lg b
  rw [hg] at c8 gl
  obtain ⟨H, hH⟩ : ∃ z, z = hf g.length := ⟨_, rfl⟩
  have hH2 : H = (g.length + 1) / 2 := hH
  have s1 := split_ok g gl
  rw [← hH] at s1
  obtain ⟨p, hp⟩ : ∃ z, z = g.take H := ⟨_, rfl⟩
  obtain ⟨q, hq⟩ : ∃ z, z = g.drop H := ⟨_, rfl⟩
  have pl : Lg p := hp ▸ gl.take H
  have ql : Lg q := hq ▸ gl.drop H
  have ha : aft p q = true := by rw [hp, hq]; exact aft_cut gl.srt H
  have hpl : p.length = H := by rw [hp, List.length_take]; omega
  have hql : q.length = g.length - H := by rw [hq, List.length_drop]
  have hg6 := gl.len
  have hpq : p ++ q = g := by rw [hp, hq, List.take_append_drop]
  have j1 := join_ok p q pl ql ha (by omega)
  have e1 := even_ok p q pl ql ha
  rw [hpq] at j1 e1
  rw [show hf (p.length + q.length) = H by rw [hH2]; unfold hf; omega, ← hp, ← hq] at e1
  rw [← hp, ← hq] at s1
  have np := n_B pl.len
  have nq := n_B ql.len
  have ng := n_B gl.len
  have f1 := find_ok g gl k
  have hw : IntKind.i64.wrap ((B q).n + 1) = (B q).n + 1 := wrapI64 (by omega) (by omega)
  clear hp hq hg hH
  by_cases hf6 : (lay g k v).length ≤ 6
  case neg =>
    have p1 := put_full g gl k v hf6
    have hh : has g k = false := by
      rw [lay_len] at hf6
      cases e : has g k
      · rfl
      · rw [e] at hf6; simp at hf6; omega
    have h6 : (B g).n = 6 := by rw [lay_len, hh] at hf6; simp at hf6; omega
    rw [hh] at f1
    refine PTriple.of_body (C := cx) Try.func5 rfl (by kernel_rfl) mixed fun E hE => ?_
    repeat' (conv => whnf); first
     | (refine bcase_of (fun hr => ?_) (fun hr => ?_) <;> (try simp only [decide_eq_true_eq, decide_eq_false_iff_not] at hr) <;> (try simp only [hw] at hr) <;> (try simp only [np, nq, h6] at hr) <;> try (exfalso; first | omega | (simp at hr; done)))
     | (apply And.intro; · first | exact Nat.le_of_ble_eq_true rfl | (show indep _ _ = true; kernel_rfl) | decide)
     | (apply Exists.intro; apply And.intro; · first | exact rfl | exact c8 | exact s1 | exact j1 | exact e1 | exact f1 | exact p1 | exact wakes_ok)
     | fail
    all_goals (conv => whnf)
    all_goals rfl
  case pos =>
    obtain ⟨w, hw2⟩ : ∃ z, z = lay g k v := ⟨_, rfl⟩
    have wl : Lg w := hw2 ▸ gl.lay k v hf6
    have p1 := put_ok g gl k v hf6
    have f2 := find_ok w wl k
    have hw1 : has w k = true := by rw [hw2]; exact has_lay g k v
    have rk := rank_lt hw1
    have rk0 := (rank_le w k).1
    have w6 := wl.len
    have kv := at_B wl.len rk0 (x := (k, v)) (by rw [hw2, rank_lay]; exact lay_get g k v)
    have l1 := key_look (B w) rk0 (by omega)
    have l2 := val_look (B w) rk0 (by omega)
    rw [kv.1] at l1
    rw [kv.2] at l2
    have d1 := drop_ok w wl k hw1
    have ho : out w k = out g k := by rw [hw2]; exact out_lay g k v
    have g1 := good_ok (B w)
    rw [goodB_B wl] at g1
    rw [ho] at d1
    rw [hw1] at f2
    rw [← hw2] at p1
    clear hw2 kv ho
    generalize rank w k = R at f2 rk rk0 l1 l2
    cases hh : has g k with
    | true =>
      have d2 := drop_ok g gl k hh
      rw [hh] at f1
      refine PTriple.of_body (C := cx) Try.func5 rfl (by kernel_rfl) mixed fun E hE => ?_
      repeat' (conv => whnf); first
       | (refine bcase_of (fun hr => ?_) (fun hr => ?_) <;> (try simp only [decide_eq_true_eq, decide_eq_false_iff_not, ge_iff_le] at hr) <;> (try simp only [hw] at hr) <;> (try simp only [np, nq] at hr) <;> try (exfalso; first | omega | (simp at hr; done)))
       | (apply And.intro; · first | exact Nat.le_of_ble_eq_true rfl | (show indep _ _ = true; kernel_rfl) | decide | exact ⟨rk0, by omega⟩)
       | (apply Exists.intro; apply And.intro; · first | exact rfl | exact c8 | exact s1 | exact j1 | exact e1 | exact f1 | exact p1 | exact f2 | exact d1 | exact d2 | exact g1 | exact wakes_ok | exact l1 | exact l2)
       | fail
      all_goals (conv => whnf)
      all_goals rfl
    | false =>
      have d2 := drop_no g gl k hh
      rw [out_no gl hh] at d1
      rw [hh] at f1
      refine PTriple.of_body (C := cx) Try.func5 rfl (by kernel_rfl) mixed fun E hE => ?_
      repeat' (conv => whnf); first
       | (refine bcase_of (fun hr => ?_) (fun hr => ?_) <;> (try simp only [decide_eq_true_eq, decide_eq_false_iff_not, ge_iff_le] at hr) <;> (try simp only [hw] at hr) <;> (try simp only [np, nq] at hr) <;> try (exfalso; first | omega | (simp at hr; done)))
       | (apply And.intro; · first | exact Nat.le_of_ble_eq_true rfl | (show indep _ _ = true; kernel_rfl) | decide | exact ⟨rk0, by omega⟩)
       | (apply Exists.intro; apply And.intro; · first | exact rfl | exact c8 | exact s1 | exact j1 | exact e1 | exact f1 | exact p1 | exact f2 | exact d1 | exact d2 | exact g1 | exact wakes_ok | exact l1 | exact l2)
       | fail
      all_goals (conv => whnf)
      all_goals rfl
theorem back_ok (b : Blk) (k v : Int) : PTriple Try.prog gv 5 [bV b, u32V k, i64V v] (.bool true) := back_of b _ rfl k v
end Go.Proofs.Ytmmenojmldollaa
