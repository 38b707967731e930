/- Chapter 15: what its functions come to (BlkR): BlockEven. -/
import Derived.Test.YtmmenojmldollaaBlkP
set_option linter.unusedVariables false
set_option linter.unusedSimpArgs false
namespace Go.Proofs.Ytmmenojmldollaa
open Go Go.Vm
set_option maxRecDepth 100000
set_option maxHeartbeats 4000000
set_option linter.unusedSimpArgs false
set_option linter.unusedVariables false
theorem aft_nil (m : List (Int × Int)) : aft [] m = true := by cases m <;> rfl
theorem aft_swap {l : List (Int × Int)} (h : l.Pairwise fun a b => a.1 < b.1) {n : Nat} (h0 : 0 < n) (h1 : n < l.length) : aft (l.drop n) (l.take n) = false := by
  match l, n, h, h0, h1 with
  | a :: r, n + 1, h, _, h1 =>
    obtain ⟨h2, _⟩ := List.pairwise_cons.1 h
    simp only [List.drop_succ_cons, List.take_succ_cons]
    unfold aft
    simp only
    have hne : r.drop n ≠ [] := by
      intro e
      have := congrArg List.length e
      simp only [List.length_drop, List.length_nil, List.length_cons] at this h1
      omega
    cases e : (r.drop n).getLast? with
    | none => exact absurd (List.getLast?_eq_none_iff.1 e) hne
    | some x =>
      have hx : x ∈ r := List.mem_of_mem_drop (List.mem_of_getLast? e)
      have := h2 x hx
      simp only [decide_eq_false_iff_not]; omega
theorem pure_take {a : List (List V)} (h : PureEs a) (n : Nat) : PureEs (a.take n) := fun e he => h e (List.mem_of_mem_take he)
theorem pure_drop {a : List (List V)} (h : PureEs a) (n : Nat) : PureEs (a.drop n) := fun e he => h e (List.mem_of_mem_drop he)
theorem even_of (b : Blk) (g : List (Int × Int)) (hg : goodL b = g) (cut : Int) (hcut : 0 ≤ cut ∧ cut ≤ 255) : PTriple Try.prog gv 7 [bV b, .int .u8 cut] (.bool true) := by
  have c8 := lgood_ok b
  have gl := goodL_Lg b
  rw [hg] at c8 gl
  clear hg
  have g6 := gl.len
  have hlen : (g.map hP).length = g.length := by simp
  have hwl : IntKind.i64.wrap (((g.map hP).length : Int) + 1) = g.length + 1 := by rw [hlen, wrapI64 (by omega) (by omega)]
  have hwc : IntKind.i64.wrap cut = cut := wrapI64 (by omega) (by omega)
  obtain ⟨n, hn⟩ : ∃ n : Nat, (IntKind.i64.wrap cut).tmod (IntKind.i64.wrap (((g.map hP).length : Int) + 1)) = n := ⟨((IntKind.i64.wrap cut).tmod (IntKind.i64.wrap (((g.map hP).length : Int) + 1))).toNat, (Int.toNat_of_nonneg (Int.tmod_nonneg _ (by rw [hwc]; omega))).symm⟩
  have hnl : n ≤ g.length := by
    have := Int.tmod_lt_of_pos (IntKind.i64.wrap cut) (show 0 < IntKind.i64.wrap (((g.map hP).length : Int) + 1) by rw [hwl]; omega)
    rw [hn, hwl] at this; omega
  have p1 := pairs_ok g g6
  have m1 : PTriple Try.prog gv 21 [.lst 2 (((g.map hP).drop 0).take (((IntKind.i64.wrap cut).tmod (IntKind.i64.wrap (((g.map hP).length : Int) + 1))).toNat - 0))] (bV (B (g.take n))) := by
    rw [hn, List.drop_zero, ← List.map_take]
    exact made_ok _ (gl.take n).len
  have m2 : PTriple Try.prog gv 21 [.lst 2 (((g.map hP).drop ((IntKind.i64.wrap cut).tmod (IntKind.i64.wrap (((g.map hP).length : Int) + 1))).toNat).take ((g.map hP).length - ((IntKind.i64.wrap cut).tmod (IntKind.i64.wrap (((g.map hP).length : Int) + 1))).toNat))] (bV (B (g.drop n))) := by
    rw [hn, Int.toNat_natCast, List.take_of_length_le (by simp), ← List.map_drop]
    exact made_ok _ (gl.drop n).len
  have e1 := even_ok _ _ (gl.take n) (gl.drop n) (aft_cut gl.srt n)
  rw [List.take_append_drop, show (g.take n).length + (g.drop n).length = g.length by simp; omega] at e1
  have s1 := split_ok g gl
  obtain ⟨H, hH⟩ : ∃ z, z = hf g.length := ⟨_, rfl⟩
  rw [← hH] at e1 s1
  have j1 := join_ok _ _ (gl.take H) (gl.drop H) (aft_cut gl.srt H) (by simp; omega)
  rw [List.take_append_drop] at j1
  by_cases hm : 0 < n ∧ n < g.length
  case pos =>
    have e2 := even_no _ _ (gl.drop n) (gl.take n) (aft_swap gl.srt hm.1 hm.2)
    refine PTriple.of_body (C := cx) Try.func7 rfl (by kernel_rfl) mixed fun E hE => ?_
    repeat' (conv => whnf); first
     | (refine bcase_of (fun hr => ?_) (fun hr => ?_) <;> (try simp only [hn] at hr) <;> (try simp only [hlen, beq_iff_eq, beq_eq_false_iff_ne, ne_eq] at hr) <;> try (exfalso; first | omega | (simp at hr; done)))
     | (apply And.intro; · first | exact Nat.le_of_ble_eq_true rfl | (show indep _ _ = true; kernel_rfl) | decide | exact (by rw [hwl]; omega : IntKind.i64.wrap (((g.map hP).length : Int) + 1) ≠ 0) | exact ⟨by rw [hn]; omega, by rw [hn, hlen]; omega⟩ | exact pure_p _ | exact pure_take (pure_drop (pure_p _) _) _)
     | (apply Exists.intro; apply And.intro; · first | exact rfl | exact c8 | exact p1 | exact m1 | exact m2 | exact e1 | exact e2 | exact j1 | exact s1 | exact wakes_ok)
     | fail
    all_goals (conv => whnf)
    all_goals rfl
  case neg =>
    have ha : aft (g.drop n) (g.take n) = true := by
      rcases (show n = 0 ∨ n = g.length by omega) with e | e
      · rw [e]; rfl
      · rw [e, List.drop_length]; exact aft_nil _
    have e2 := even_ok _ _ (gl.drop n) (gl.take n) ha
    refine PTriple.of_body (C := cx) Try.func7 rfl (by kernel_rfl) mixed fun E hE => ?_
    repeat' (conv => whnf); first
     | (refine bcase_of (fun hr => ?_) (fun hr => ?_) <;> (try simp only [hn] at hr) <;> (try simp only [hlen, beq_iff_eq, beq_eq_false_iff_ne, ne_eq] at hr) <;> try (exfalso; first | omega | (simp at hr; done)))
     | (apply And.intro; · first | exact Nat.le_of_ble_eq_true rfl | (show indep _ _ = true; kernel_rfl) | decide | exact (by rw [hwl]; omega : IntKind.i64.wrap (((g.map hP).length : Int) + 1) ≠ 0) | exact ⟨by rw [hn]; omega, by rw [hn, hlen]; omega⟩ | exact pure_p _ | exact pure_take (pure_drop (pure_p _) _) _)
     | (apply Exists.intro; apply And.intro; · first | exact rfl | exact c8 | exact p1 | exact m1 | exact m2 | exact e1 | exact e2 | exact j1 | exact s1 | exact wakes_ok)
     | fail
    all_goals (conv => whnf)
    all_goals rfl
theorem evens_ok (b : Blk) (cut : Int) (hcut : 0 ≤ cut ∧ cut ≤ 255) : PTriple Try.prog gv 7 [bV b, .int .u8 cut] (.bool true) := even_of b _ rfl cut hcut
end Go.Proofs.Ytmmenojmldollaa
