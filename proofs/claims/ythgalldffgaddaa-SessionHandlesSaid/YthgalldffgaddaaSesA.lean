/- Chapter 24: what its functions come to (SesA). -/
import Derived.Test.YthgalldffgaddaaSesCx
set_option linter.unusedVariables false
set_option linter.unusedSimpArgs false
namespace Go.Proofs.Ythgalldffgaddaa
open Go Go.Vm
set_option maxRecDepth 100000
set_option maxHeartbeats 4000000
set_option linter.unusedSimpArgs false
structure Plc where
  turn : Int
  opn : Bool
  ver : Int
  till : Int
abbrev plc (p : Plc) : List V := [.int .i64 p.turn, .bool p.opn, .int .i64 p.ver, .int .i64 p.till]
abbrev i64V (n : Int) : V := .int .i64 n
abbrev hdl (p t : Int) : V := .agg [.int .i64 p, .int .i64 t]
/-- The cells of the program's sessions. -/
abbrev cells (k l n : Int) (a b c d e f : Plc) : List V := [.int .i64 k, .int .i64 l, .int .i64 n, .int .i64 a.turn, .bool a.opn, .int .i64 a.ver, .int .i64 a.till, .int .i64 b.turn, .bool b.opn, .int .i64 b.ver, .int .i64 b.till,
  .int .i64 c.turn, .bool c.opn, .int .i64 c.ver, .int .i64 c.till, .int .i64 d.turn, .bool d.opn, .int .i64 d.ver, .int .i64 d.till, .int .i64 e.turn, .bool e.opn, .int .i64 e.ver, .int .i64 e.till, .int .i64 f.turn, .bool f.opn, .int .i64 f.ver, .int .i64 f.till]
abbrev p0 : Plc := ⟨0, false, 0, 0⟩
def tickT (n m : Int) : Int := min (n + max 0 (min m 1099511627776)) 1099511627776
theorem wrapI64 {n : Int} (h : -9223372036854775808 ≤ n) (h' : n ≤ 9223372036854775807) : IntKind.i64.wrap n = n := wrap64 h h'
theorem new_ok (k l : Int) (hk : 2 ≤ k ∧ k ≤ 8) (hl : 1 ≤ l ∧ l ≤ 1048576) : ATriple Try.prog gv noRep 9 [i64V k, i64V l] [] (.ref (0, 0) 0) [] (some (.box (cells k l 0 p0 p0 p0 p0 p0 p0))) := by
  refine ATriple.of_body (C := cx) Try.func9 rfl (by kernel_rfl) mixed rfl (by simp [okA, okC, okN]) (by simp [okOb, okC, okN, cells, plc]) (by simp [okG, okA, okC, okN]) (by simp [okOb, okC, okN, cells, plc]) (fun o ho => by cases ho; exact ⟨by simp [okOb, okC, okN], rfl⟩) fun E hE => ?_
  repeat' (conv => whnf); first
   | (refine bcase_of (fun hr => ?_) (fun hr => ?_) <;> (try simp only [decide_eq_true_eq, decide_eq_false_iff_not, gt_iff_lt] at hr) <;> try (exfalso; omega))
   | (refine And.intro (by first | exact Nat.le_of_ble_eq_true rfl | decide) ?_)
   | (refine And.intro (by show indep _ _ = true; kernel_rfl) ?_)
   | (refine Exists.intro _ (And.intro (by first | exact rfl) ?_))
   | fail
  all_goals (conv => whnf)
  all_goals exact ⟨_, by simp, rfl, rfl, rfl, rfl⟩
theorem now_ok (k l n : Int) (a b c d e f : Plc) : ATriple Try.prog gv noRep 19 [.ref (0, 0) 0] [.box (cells k l n a b c d e f)] (i64V n) [.box (cells k l n a b c d e f)] (none) := by
  refine ATriple.of_body (C := cx) Try.func19 rfl (by kernel_rfl) mixed rfl (by simp [okA, okC, okN]) (by simp [okOb, okC, okN, cells, plc]) (by simp [okG, okA, okC, okN]) (by simp [okOb, okC, okN, cells, plc]) (fun o ho => by cases ho) fun E hE => ?_
  repeat' (conv => whnf); first
   | (refine bcase_of (fun hr => ?_) (fun hr => ?_) <;> (try simp only [decide_eq_true_eq, decide_eq_false_iff_not, gt_iff_lt] at hr) <;> try (exfalso; omega))
   | (refine And.intro (by first | exact Nat.le_of_ble_eq_true rfl | decide) ?_)
   | (refine And.intro (by show indep _ _ = true; kernel_rfl) ?_)
   | (refine Exists.intro _ (And.intro (by first | exact rfl) ?_))
   | fail
  all_goals (conv => whnf)
  all_goals exact ⟨rfl, rfl⟩
theorem tick_ok (k l n : Int) (a b c d e f : Plc) (m : Int) (hn : 0 ≤ n ∧ n ≤ 1099511627776) : ATriple Try.prog gv noRep 16 [.ref (0, 0) 0, i64V m] [.box (cells k l n a b c d e f)] (.tup []) [.box (cells k l (tickT n m) a b c d e f)] (none) := by
  refine ATriple.of_body (C := cx) Try.func16 rfl (by kernel_rfl) mixed rfl (by simp [okA, okC, okN]) (by simp [okOb, okC, okN, cells, plc]) (by simp [okG, okA, okC, okN]) (by simp [okOb, okC, okN, cells, plc]) (fun o ho => by cases ho) fun E hE => ?_
  repeat' (conv => whnf); first
   | (refine bcase_of (fun hr => ?_) (fun hr => ?_) <;> (try simp only [decide_eq_true_eq, decide_eq_false_iff_not, gt_iff_lt] at hr) <;> try (exfalso; omega))
   | (refine And.intro (by first | exact Nat.le_of_ble_eq_true rfl | decide) ?_)
   | (refine And.intro (by show indep _ _ = true; kernel_rfl) ?_)
   | (refine Exists.intro _ (And.intro (by first | exact rfl) ?_))
   | fail
  all_goals (conv => whnf)
  all_goals refine ⟨rfl, ?_⟩
  all_goals refine congrArg (fun x => [some (Ob.box (cells k l x a b c d e f))]) ?_
  all_goals dsimp only
  all_goals have e1 : (if (1099511627776 : Int) < m then 1099511627776 else m) = min m 1099511627776 := by simp only [Int.min_def]; (repeat' split) <;> omega
  all_goals simp only [e1]
  all_goals have e2 : (if min m 1099511627776 > 0 then min m 1099511627776 else 0) = max 0 (min m 1099511627776) := by simp only [Int.max_def]; (repeat' split) <;> omega
  all_goals simp only [e2]
  all_goals have hw : IntKind.i64.wrap (n + max 0 (min m 1099511627776)) = n + max 0 (min m 1099511627776) := wrapI64 (by omega) (by omega)
  all_goals simp only [hw, tickT, Int.min_def (n + max 0 (min m 1099511627776))]
  all_goals (repeat' split) <;> omega
theorem handle_0 (k l n : Int) (a b c d e f : Plc) : ATriple Try.prog gv noRep 25 [.ref (0, 0) 0, i64V 0] [.box (cells k l n a b c d e f)] (hdl 0 a.turn) [.box (cells k l n a b c d e f)] (none) := by
  refine ATriple.of_body (C := cx) Try.func25 rfl (by kernel_rfl) mixed rfl (by simp [okA, okC, okN]) (by simp [okOb, okC, okN, cells, plc]) (by simp [okG, okA, okC, okN]) (by simp [okOb, okC, okN, cells, plc]) (fun o ho => by cases ho) fun E hE => ?_
  repeat' (conv => whnf); first
   | (refine bcase_of (fun hr => ?_) (fun hr => ?_) <;> (try simp only [decide_eq_true_eq, decide_eq_false_iff_not, gt_iff_lt] at hr) <;> try (exfalso; omega))
   | (refine And.intro (by first | exact Nat.le_of_ble_eq_true rfl | decide | decide | exact ⟨(by decide), (by decide)⟩) ?_)
   | (refine And.intro (by show indep _ _ = true; kernel_rfl) ?_)
   | (refine Exists.intro _ (And.intro (by first | exact rfl) ?_))
   | fail
  all_goals (conv => whnf)
  all_goals exact ⟨rfl, rfl⟩
theorem handle_1 (k l n : Int) (a b c d e f : Plc) : ATriple Try.prog gv noRep 25 [.ref (0, 0) 0, i64V 1] [.box (cells k l n a b c d e f)] (hdl 1 b.turn) [.box (cells k l n a b c d e f)] (none) := by
  refine ATriple.of_body (C := cx) Try.func25 rfl (by kernel_rfl) mixed rfl (by simp [okA, okC, okN]) (by simp [okOb, okC, okN, cells, plc]) (by simp [okG, okA, okC, okN]) (by simp [okOb, okC, okN, cells, plc]) (fun o ho => by cases ho) fun E hE => ?_
  repeat' (conv => whnf); first
   | (refine bcase_of (fun hr => ?_) (fun hr => ?_) <;> (try simp only [decide_eq_true_eq, decide_eq_false_iff_not, gt_iff_lt] at hr) <;> try (exfalso; omega))
   | (refine And.intro (by first | exact Nat.le_of_ble_eq_true rfl | decide | decide | exact ⟨(by decide), (by decide)⟩) ?_)
   | (refine And.intro (by show indep _ _ = true; kernel_rfl) ?_)
   | (refine Exists.intro _ (And.intro (by first | exact rfl) ?_))
   | fail
  all_goals (conv => whnf)
  all_goals exact ⟨rfl, rfl⟩
theorem handle_2 (k l n : Int) (a b c d e f : Plc) : ATriple Try.prog gv noRep 25 [.ref (0, 0) 0, i64V 2] [.box (cells k l n a b c d e f)] (hdl 2 c.turn) [.box (cells k l n a b c d e f)] (none) := by
  refine ATriple.of_body (C := cx) Try.func25 rfl (by kernel_rfl) mixed rfl (by simp [okA, okC, okN]) (by simp [okOb, okC, okN, cells, plc]) (by simp [okG, okA, okC, okN]) (by simp [okOb, okC, okN, cells, plc]) (fun o ho => by cases ho) fun E hE => ?_
  repeat' (conv => whnf); first
   | (refine bcase_of (fun hr => ?_) (fun hr => ?_) <;> (try simp only [decide_eq_true_eq, decide_eq_false_iff_not, gt_iff_lt] at hr) <;> try (exfalso; omega))
   | (refine And.intro (by first | exact Nat.le_of_ble_eq_true rfl | decide | decide | exact ⟨(by decide), (by decide)⟩) ?_)
   | (refine And.intro (by show indep _ _ = true; kernel_rfl) ?_)
   | (refine Exists.intro _ (And.intro (by first | exact rfl) ?_))
   | fail
  all_goals (conv => whnf)
  all_goals exact ⟨rfl, rfl⟩
theorem handle_3 (k l n : Int) (a b c d e f : Plc) : ATriple Try.prog gv noRep 25 [.ref (0, 0) 0, i64V 3] [.box (cells k l n a b c d e f)] (hdl 3 d.turn) [.box (cells k l n a b c d e f)] (none) := by
  refine ATriple.of_body (C := cx) Try.func25 rfl (by kernel_rfl) mixed rfl (by simp [okA, okC, okN]) (by simp [okOb, okC, okN, cells, plc]) (by simp [okG, okA, okC, okN]) (by simp [okOb, okC, okN, cells, plc]) (fun o ho => by cases ho) fun E hE => ?_
  repeat' (conv => whnf); first
   | (refine bcase_of (fun hr => ?_) (fun hr => ?_) <;> (try simp only [decide_eq_true_eq, decide_eq_false_iff_not, gt_iff_lt] at hr) <;> try (exfalso; omega))
   | (refine And.intro (by first | exact Nat.le_of_ble_eq_true rfl | decide | decide | exact ⟨(by decide), (by decide)⟩) ?_)
   | (refine And.intro (by show indep _ _ = true; kernel_rfl) ?_)
   | (refine Exists.intro _ (And.intro (by first | exact rfl) ?_))
   | fail
  all_goals (conv => whnf)
  all_goals exact ⟨rfl, rfl⟩
theorem handle_4 (k l n : Int) (a b c d e f : Plc) : ATriple Try.prog gv noRep 25 [.ref (0, 0) 0, i64V 4] [.box (cells k l n a b c d e f)] (hdl 4 e.turn) [.box (cells k l n a b c d e f)] (none) := by
  refine ATriple.of_body (C := cx) Try.func25 rfl (by kernel_rfl) mixed rfl (by simp [okA, okC, okN]) (by simp [okOb, okC, okN, cells, plc]) (by simp [okG, okA, okC, okN]) (by simp [okOb, okC, okN, cells, plc]) (fun o ho => by cases ho) fun E hE => ?_
  repeat' (conv => whnf); first
   | (refine bcase_of (fun hr => ?_) (fun hr => ?_) <;> (try simp only [decide_eq_true_eq, decide_eq_false_iff_not, gt_iff_lt] at hr) <;> try (exfalso; omega))
   | (refine And.intro (by first | exact Nat.le_of_ble_eq_true rfl | decide | decide | exact ⟨(by decide), (by decide)⟩) ?_)
   | (refine And.intro (by show indep _ _ = true; kernel_rfl) ?_)
   | (refine Exists.intro _ (And.intro (by first | exact rfl) ?_))
   | fail
  all_goals (conv => whnf)
  all_goals exact ⟨rfl, rfl⟩
theorem handle_5 (k l n : Int) (a b c d e f : Plc) : ATriple Try.prog gv noRep 25 [.ref (0, 0) 0, i64V 5] [.box (cells k l n a b c d e f)] (hdl 5 f.turn) [.box (cells k l n a b c d e f)] (none) := by
  refine ATriple.of_body (C := cx) Try.func25 rfl (by kernel_rfl) mixed rfl (by simp [okA, okC, okN]) (by simp [okOb, okC, okN, cells, plc]) (by simp [okG, okA, okC, okN]) (by simp [okOb, okC, okN, cells, plc]) (fun o ho => by cases ho) fun E hE => ?_
  repeat' (conv => whnf); first
   | (refine bcase_of (fun hr => ?_) (fun hr => ?_) <;> (try simp only [decide_eq_true_eq, decide_eq_false_iff_not, gt_iff_lt] at hr) <;> try (exfalso; omega))
   | (refine And.intro (by first | exact Nat.le_of_ble_eq_true rfl | decide | decide | exact ⟨(by decide), (by decide)⟩) ?_)
   | (refine And.intro (by show indep _ _ = true; kernel_rfl) ?_)
   | (refine Exists.intro _ (And.intro (by first | exact rfl) ?_))
   | fail
  all_goals (conv => whnf)
  all_goals exact ⟨rfl, rfl⟩
theorem find_0 (k l n : Int) (a b c d e f : Plc) (ho : a.opn = true) : ATriple Try.prog gv noRep 26 [.ref (0, 0) 0, hdl 0 a.turn] [.box (cells k l n a b c d e f)] (.ref (0, 0) 3) [.box (cells k l n a b c d e f)] (none) := by
  refine ATriple.of_body (C := cx) Try.func26 rfl (by kernel_rfl) mixed rfl (by simp [okA, okC, okN]) (by simp [okOb, okC, okN, cells, plc]) (by simp [okG, okA, okC, okN]) (by simp [okOb, okC, okN, cells, plc]) (fun o ho => by cases ho) fun E hE => ?_
  repeat' (conv => whnf); first
   | (refine bcase_of (fun hr => ?_) (fun hr => ?_) <;> (try simp only [decide_eq_true_eq, decide_eq_false_iff_not, gt_iff_lt] at hr) <;> try (exfalso; first | omega | (rw [ho] at hr; cases hr; done) | (simp at hr; done)))
   | (refine And.intro (by first | exact Nat.le_of_ble_eq_true rfl | decide | decide | exact ⟨(by decide), (by decide)⟩) ?_)
   | (refine And.intro (by show indep _ _ = true; kernel_rfl) ?_)
   | (refine Exists.intro _ (And.intro (by first | exact rfl) ?_))
   | refine ⟨_, _, _, ATriple.call (handle_0 k l n a b c d e f) (by rfl) (by rfl) (by rfl), ?_⟩
   | refine VLoop.unroll hE mixed ?_
   | fail
  all_goals (conv => whnf)
  all_goals exact ⟨rfl, rfl⟩
end Go.Proofs.Ythgalldffgaddaa
