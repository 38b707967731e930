/- Chapter 16: what its functions come to (TrI): Join, Drop, Split, Even. -/
import Derived.Test.YtbppemcdphgknaaTrH
set_option linter.unusedVariables false
set_option linter.unusedSimpArgs false
namespace Go.Proofs.Ytbppemcdphgknaa.T
open Go Go.Vm
set_option maxRecDepth 100000
set_option maxHeartbeats 4000000
set_option linter.unusedSimpArgs false
set_option linter.unusedVariables false
theorem join_bad (a b : Blk) (h : goodB a = false ∨ goodB b = false) : PTriple Try.prog gv 65 [bV a, bV b] (.tup [bV (B []), .bool false]) := by
  have c1 := ahead_bad a b h
  refine PTriple.of_body (C := cx) Try.func65 rfl (by kernel_rfl) mixed fun E hE => ?_
  repeat' (conv => whnf); first
   | (refine bcase_of (fun hr => ?_) (fun hr => ?_) <;> skip)
   | (apply And.intro; · first | exact Nat.le_of_ble_eq_true rfl | (show indep _ _ = true; kernel_rfl) | decide)
   | (apply Exists.intro; apply And.intro; · first | exact rfl | exact c1)
   | fail
  all_goals (conv => whnf)
  all_goals rfl
theorem join_no (l m : List (Int × Int)) (hl : Lg l) (hm : Lg m) (h : ¬ (aft l m = true ∧ l.length + m.length ≤ 6)) : PTriple Try.prog gv 65 [bV (B l), bV (B m)] (.tup [bV (B []), .bool false]) := by
  have c1 := ahead_ok hl hm
  have e1 := n_B hl.len
  have e2 := n_B hm.len
  have h1 := hl.len
  have h2 := hm.len
  have hw : IntKind.i64.wrap ((B l).n + (B m).n) = l.length + m.length := by rw [e1, e2, wrapI64 (by omega) (by omega)]
  cases ha : aft l m with
  | false =>
    rw [ha] at c1
    refine PTriple.of_body (C := cx) Try.func65 rfl (by kernel_rfl) mixed fun E hE => ?_
    repeat' (conv => whnf); first
     | (refine bcase_of (fun hr => ?_) (fun hr => ?_) <;> skip)
     | (apply And.intro; · first | exact Nat.le_of_ble_eq_true rfl | (show indep _ _ = true; kernel_rfl) | decide)
     | (apply Exists.intro; apply And.intro; · first | exact rfl | exact c1)
     | fail
    all_goals (conv => whnf)
    all_goals rfl
  | true =>
    rw [ha] at c1
    have hn : ¬ l.length + m.length ≤ 6 := fun h' => h ⟨ha, h'⟩
    refine PTriple.of_body (C := cx) Try.func65 rfl (by kernel_rfl) mixed fun E hE => ?_
    repeat' (conv => whnf); first
     | (refine bcase_of (fun hr => ?_) (fun hr => ?_) <;> (try simp only [hw, decide_eq_true_eq, decide_eq_false_iff_not] at hr) <;> try (exfalso; omega))
     | (apply And.intro; · first | exact Nat.le_of_ble_eq_true rfl | (show indep _ _ = true; kernel_rfl) | decide)
     | (apply Exists.intro; apply And.intro; · first | exact rfl | exact c1)
     | fail
    all_goals (conv => whnf)
    all_goals rfl
theorem join_ok (l m : List (Int × Int)) (hl : Lg l) (hm : Lg m) (ha : aft l m = true) (hn : l.length + m.length ≤ 6) : PTriple Try.prog gv 65 [bV (B l), bV (B m)] (.tup [bV (B (l ++ m)), .bool true]) := by
  have c1 := ahead_ok hl hm
  rw [ha] at c1
  have e1 := n_B hl.len
  have e2 := n_B hm.len
  have h1 := hl.len
  have h2 := hm.len
  have hw : IntKind.i64.wrap ((B l).n + (B m).n) = l.length + m.length := by rw [e1, e2, wrapI64 (by omega) (by omega)]
  have c2 := behind_ok (B l) (B m) 0 (B m).n (by omega) (by omega) (by omega)
  have hb : behB (B l) (B m) 0 (B m).n = B (l ++ m) := by rw [e2, beh_eq hl.len hm.len (Nat.le_refl _) hn, List.take_length]
  rw [hb] at c2
  refine PTriple.of_body (C := cx) Try.func65 rfl (by kernel_rfl) mixed fun E hE => ?_
  repeat' (conv => whnf); first
   | (refine bcase_of (fun hr => ?_) (fun hr => ?_) <;> (try simp only [hw, decide_eq_true_eq, decide_eq_false_iff_not] at hr) <;> try (exfalso; omega))
   | (apply And.intro; · first | exact Nat.le_of_ble_eq_true rfl | (show indep _ _ = true; kernel_rfl) | decide)
   | (apply Exists.intro; apply And.intro; · first | exact rfl | exact c1 | exact c2)
   | fail
  all_goals (conv => whnf)
  all_goals rfl
theorem drop_bad (b : Blk) (h : goodB b = false) (k : Int) : PTriple Try.prog gv 58 [bV b, u32V k] (.tup [bV (B []), .bool false]) := by
  have c1 := find_bad b h k
  refine PTriple.of_body (C := cx) Try.func58 rfl (by kernel_rfl) mixed fun E hE => ?_
  repeat' (conv => whnf); first
   | (refine bcase_of (fun hr => ?_) (fun hr => ?_) <;> skip)
   | (apply And.intro; · first | exact Nat.le_of_ble_eq_true rfl | (show indep _ _ = true; kernel_rfl) | decide)
   | (apply Exists.intro; apply And.intro; · first | exact rfl | exact c1)
   | fail
  all_goals (conv => whnf)
  all_goals rfl
theorem drop_no (l : List (Int × Int)) (hl : Lg l) (k : Int) (h : has l k = false) : PTriple Try.prog gv 58 [bV (B l), u32V k] (.tup [bV (B []), .bool false]) := by
  have c1 := find_ok l hl k
  rw [h] at c1
  refine PTriple.of_body (C := cx) Try.func58 rfl (by kernel_rfl) mixed fun E hE => ?_
  repeat' (conv => whnf); first
   | (refine bcase_of (fun hr => ?_) (fun hr => ?_) <;> skip)
   | (apply And.intro; · first | exact Nat.le_of_ble_eq_true rfl | (show indep _ _ = true; kernel_rfl) | decide)
   | (apply Exists.intro; apply And.intro; · first | exact rfl | exact c1)
   | fail
  all_goals (conv => whnf)
  all_goals rfl
theorem drop_ok (l : List (Int × Int)) (hl : Lg l) (k : Int) (h : has l k = true) : PTriple Try.prog gv 58 [bV (B l), u32V k] (.tup [bV (B (out l k)), .bool true]) := by
  have c1 := find_ok l hl k
  rw [h] at c1
  have h1 := hl.len
  have h2 := rank_le l k
  have h3 := rank_lt h
  have e1 := n_B hl.len
  have hw : IntKind.i64.wrap (rank l k + 1) = rank l k + 1 := wrapI64 (by omega) (by omega)
  have c2 := of_ok (B l) 0 (rank l k) (by omega)
  have hn : (ofB (B l) 0 (rank l k)).n = rank l k := by simp [ofB]
  have c3 := behind_ok (ofB (B l) 0 (rank l k)) (B l) (IntKind.i64.wrap (rank l k + 1)) (B l).n (by omega) (by omega) (by omega)
  have hb : behB (ofB (B l) 0 (rank l k)) (B l) (IntKind.i64.wrap (rank l k + 1)) (B l).n = B (out l k) := by rw [hw, e1]; exact out_eq hl k h
  rw [hb] at c3
  refine PTriple.of_body (C := cx) Try.func58 rfl (by kernel_rfl) mixed fun E hE => ?_
  repeat' (conv => whnf); first
   | (refine bcase_of (fun hr => ?_) (fun hr => ?_) <;> skip)
   | (apply And.intro; · first | exact Nat.le_of_ble_eq_true rfl | (show indep _ _ = true; kernel_rfl) | decide)
   | (apply Exists.intro; apply And.intro; · first | exact rfl | exact c1 | exact c2 | exact c3)
   | fail
  all_goals (conv => whnf)
  all_goals rfl
theorem split_bad (b : Blk) (h : goodB b = false) : PTriple Try.prog gv 62 [bV b] (.tup [bV (B []), bV (B [])]) := by
  have c1 := good_ok b
  rw [h] at c1
  refine PTriple.of_body (C := cx) Try.func62 rfl (by kernel_rfl) mixed fun E hE => ?_
  repeat' (conv => whnf); first
   | (refine bcase_of (fun hr => ?_) (fun hr => ?_) <;> skip)
   | (apply And.intro; · first | exact Nat.le_of_ble_eq_true rfl | (show indep _ _ = true; kernel_rfl) | decide)
   | (apply Exists.intro; apply And.intro; · first | exact rfl | exact c1)
   | fail
  all_goals (conv => whnf)
  all_goals rfl
def hf (n : Nat) : Nat := (n + 1) / 2
theorem split_ok (l : List (Int × Int)) (hl : Lg l) : PTriple Try.prog gv 62 [bV (B l)] (.tup [bV (B (l.take (hf l.length))), bV (B (l.drop (hf l.length)))]) := by
  have c1 := good_ok (B l)
  rw [goodB_B hl] at c1
  have h1 := hl.len
  have e1 := n_B hl.len
  have hh : hf l.length ≤ l.length := by unfold hf; omega
  have eh : ((B l).n + 1) / 2 = hf l.length := by rw [e1]; unfold hf; omega
  have c2 := half_ok (B l).n (by omega)
  rw [eh] at c2
  have c3 := of_ok (B l) 0 (hf l.length) (by omega)
  rw [take_eq hl.len hh] at c3
  have c4 := of_ok (B l) (hf l.length) (B l).n (by omega)
  have e4 : ofB (B l) (hf l.length) (B l).n = B (l.drop (hf l.length)) := by rw [e1]; exact drop_eq hl.len hh
  rw [e4] at c4
  refine PTriple.of_body (C := cx) Try.func62 rfl (by kernel_rfl) mixed fun E hE => ?_
  repeat' (conv => whnf); first
   | (refine bcase_of (fun hr => ?_) (fun hr => ?_) <;> skip)
   | (apply And.intro; · first | exact Nat.le_of_ble_eq_true rfl | (show indep _ _ = true; kernel_rfl) | decide)
   | (apply Exists.intro; apply And.intro; · first | exact rfl | exact c1 | exact c2 | exact c3 | exact c4)
   | fail
  all_goals (conv => whnf)
  all_goals rfl
theorem even_bad (a b : Blk) (h : goodB a = false ∨ goodB b = false) : PTriple Try.prog gv 66 [bV a, bV b] (.tup [bV (B []), bV (B []), .bool false]) := by
  have c1 := ahead_bad a b h
  refine PTriple.of_body (C := cx) Try.func66 rfl (by kernel_rfl) mixed fun E hE => ?_
  repeat' (conv => whnf); first
   | (refine bcase_of (fun hr => ?_) (fun hr => ?_) <;> skip)
   | (apply And.intro; · first | exact Nat.le_of_ble_eq_true rfl | (show indep _ _ = true; kernel_rfl) | decide)
   | (apply Exists.intro; apply And.intro; · first | exact rfl | exact c1)
   | fail
  all_goals (conv => whnf)
  all_goals rfl
theorem even_no (l m : List (Int × Int)) (hl : Lg l) (hm : Lg m) (h : aft l m = false) : PTriple Try.prog gv 66 [bV (B l), bV (B m)] (.tup [bV (B []), bV (B []), .bool false]) := by
  have c1 := ahead_ok hl hm
  rw [h] at c1
  refine PTriple.of_body (C := cx) Try.func66 rfl (by kernel_rfl) mixed fun E hE => ?_
  repeat' (conv => whnf); first
   | (refine bcase_of (fun hr => ?_) (fun hr => ?_) <;> skip)
   | (apply And.intro; · first | exact Nat.le_of_ble_eq_true rfl | (show indep _ _ = true; kernel_rfl) | decide)
   | (apply Exists.intro; apply And.intro; · first | exact rfl | exact c1)
   | fail
  all_goals (conv => whnf)
  all_goals rfl
theorem even_ok (l m : List (Int × Int)) (hl : Lg l) (hm : Lg m) (h : aft l m = true) : PTriple Try.prog gv 66 [bV (B l), bV (B m)] (.tup [bV (B ((l ++ m).take (hf (l.length + m.length)))), bV (B ((l ++ m).drop (hf (l.length + m.length)))), .bool true]) := by
  have c1 := ahead_ok hl hm
  rw [h] at c1
  have h1 := hl.len
  have h2 := hm.len
  have e1 := n_B hl.len
  have e2 := n_B hm.len
  have hw : IntKind.i64.wrap ((B l).n + (B m).n) = l.length + m.length := by rw [e1, e2, wrapI64 (by omega) (by omega)]
  have c2 := half_ok (IntKind.i64.wrap ((B l).n + (B m).n)) (by rw [hw]; omega)
  have eh : (IntKind.i64.wrap ((B l).n + (B m).n) + 1) / 2 = hf (l.length + m.length) := by rw [hw]; unfold hf; omega
  rw [eh] at c2
  obtain ⟨H, hH⟩ : ∃ z, z = hf (l.length + m.length) := ⟨_, rfl⟩
  rw [← hH] at c2 ⊢
  have hH2 : H = (l.length + m.length + 1) / 2 := hH
  clear eh hw hH
  by_cases hc : H ≤ l.length
  · have c3 := of_ok (B l) 0 H (by omega)
    rw [take_eq hl.len hc] at c3
    have c4 := of_ok (B l) H (B l).n (by omega)
    have e4 : ofB (B l) H (B l).n = B (l.drop H) := by rw [e1]; exact drop_eq hl.len hc
    rw [e4] at c4
    have hd := n_B (hl.drop H).len
    have hdl : (l.drop H).length = l.length - H := List.length_drop
    have c5 := behind_ok (B (l.drop H)) (B m) 0 (B m).n (by omega) (by omega) (by omega)
    have e5 : behB (B (l.drop H)) (B m) 0 (B m).n = B (l.drop H ++ m) := by rw [e2, beh_eq (hl.drop H).len hm.len (Nat.le_refl _) (by omega), List.take_length]
    rw [e5] at c5
    have t1 : (l ++ m).take H = l.take H := List.take_append_of_le_length hc
    have t2 : (l ++ m).drop H = l.drop H ++ m := List.drop_append_of_le_length hc
    rw [t1, t2]
    refine PTriple.of_body (C := cx) Try.func66 rfl (by kernel_rfl) mixed fun E hE => ?_
    repeat' (conv => whnf); first
     | (refine bcase_of (fun hr => ?_) (fun hr => ?_) <;> (try simp only [e1, decide_eq_true_eq, decide_eq_false_iff_not] at hr) <;> try (exfalso; omega))
     | (apply And.intro; · first | exact Nat.le_of_ble_eq_true rfl | (show indep _ _ = true; kernel_rfl) | decide)
     | (apply Exists.intro; apply And.intro; · first | exact rfl | exact c1 | exact c2 | exact c3 | exact c4 | exact c5)
     | fail
    all_goals (conv => whnf)
    all_goals rfl
  · have hw2 : IntKind.i64.wrap ((H : Int) - (B l).n) = ((H - l.length : Nat) : Int) := by rw [e1, wrapI64 (by omega) (by omega)]; omega
    have c3 := behind_ok (B l) (B m) 0 (IntKind.i64.wrap ((H : Int) - (B l).n)) (by omega) (by omega) (by omega)
    have e3 : behB (B l) (B m) 0 (IntKind.i64.wrap ((H : Int) - (B l).n)) = B (l ++ m.take (H - l.length)) := by rw [hw2, beh_eq hl.len hm.len (by omega) (by omega)]
    rw [e3] at c3
    have c4 := of_ok (B m) (IntKind.i64.wrap ((H : Int) - (B l).n)) (B m).n (by omega)
    have e4 : ofB (B m) (IntKind.i64.wrap ((H : Int) - (B l).n)) (B m).n = B (m.drop (H - l.length)) := by rw [hw2, e2, drop_eq hm.len (by omega)]
    rw [e4] at c4
    have t1 : (l ++ m).take H = l ++ m.take (H - l.length) := by rw [List.take_append, List.take_of_length_le (by omega)]
    have t2 : (l ++ m).drop H = m.drop (H - l.length) := by rw [List.drop_append, List.drop_eq_nil_of_le (by omega), List.nil_append]
    rw [t1, t2]
    refine PTriple.of_body (C := cx) Try.func66 rfl (by kernel_rfl) mixed fun E hE => ?_
    repeat' (conv => whnf); first
     | (refine bcase_of (fun hr => ?_) (fun hr => ?_) <;> (try simp only [e1, decide_eq_true_eq, decide_eq_false_iff_not] at hr) <;> try (exfalso; omega))
     | (apply And.intro; · first | exact Nat.le_of_ble_eq_true rfl | (show indep _ _ = true; kernel_rfl) | decide)
     | (apply Exists.intro; apply And.intro; · first | exact rfl | exact c1 | exact c2 | exact c3 | exact c4)
     | fail
    all_goals (conv => whnf)
    all_goals rfl
end Go.Proofs.Ytbppemcdphgknaa.T
