/- Chapter 16: what its functions come to (TrF): Out, Pairs, Made. -/
import Derived.Test.YtbppemcdphgknaaTrE
set_option linter.unusedVariables false
set_option linter.unusedSimpArgs false
namespace Go.Proofs.Ytbppemcdphgknaa.T
open Go Go.Vm
set_option maxRecDepth 100000
set_option maxHeartbeats 4000000
set_option linter.unusedSimpArgs false
set_option linter.unusedVariables false
theorem out_none {l : List (Int × Int)} {k : Int} (h : ∀ x ∈ l, x.1 ≠ k) : out l k = l := by
  unfold out
  exact List.filter_eq_self.2 fun x hx => by simpa using h x hx
theorem rout_0 (k : Int) : PTriple Try.prog gv 34 [pV [], u32V k] (pV (out [] k)) := by
  refine PTriple.to_lst ?_
  refine PTriple.of_body (C := cx) Try.func34 rfl (by kernel_rfl) mixed fun E hE => ?_
  repeat' (conv => whnf); first
   | (refine bcase_of (fun hr => ?_) (fun hr => ?_) <;> try (exfalso; simp at hr; done))
   | (apply And.intro; · first | exact Nat.le_of_ble_eq_true rfl | (show indep _ _ = true; kernel_rfl) | decide | exact of_decide_eq_true rfl | exact allOne_of rfl | exact pure_of rfl | exact ⟨Nat.le_of_ble_eq_true rfl, Nat.le_of_ble_eq_true rfl⟩ | exact ⟨Nat.le_of_ble_eq_true rfl, (fun h => by cases h), Nat.le_of_ble_eq_true rfl, Nat.le_of_ble_eq_true rfl⟩)
   | (apply Exists.intro; apply And.intro; · first | exact rfl)
   | refine VLoop.unroll hE mixed ?_
   | fail
  all_goals (conv => whnf)
  all_goals rfl
theorem rout_1 (a : Int × Int) (hl : Lg [a]) (k : Int) : PTriple Try.prog gv 34 [pV [a], u32V k] (pV (out [a] k)) := by
  have hs := hl.srt
  simp only [List.pairwise_cons, List.mem_cons, List.not_mem_nil, forall_eq_or_imp, or_false, forall_eq] at hs
  clear hl
  by_cases e0 : a.1 = k
  case pos =>
    have e : out [a] k = [] := by simp [out, e0]
    rw [e]
    clear e hs
    refine PTriple.to_lst ?_
    refine PTriple.of_body (C := cx) Try.func34 rfl (by kernel_rfl) mixed fun E hE => ?_
    repeat' (conv => whnf); first
     | (refine bcase_of (fun hr => ?_) (fun hr => ?_) <;> (try simp [e0] at hr))
     | (apply And.intro; · first | exact Nat.le_of_ble_eq_true rfl | (show indep _ _ = true; kernel_rfl) | decide | exact of_decide_eq_true rfl | exact allOne_of rfl | exact pure_of rfl | exact ⟨Nat.le_of_ble_eq_true rfl, Nat.le_of_ble_eq_true rfl⟩ | exact ⟨Nat.le_of_ble_eq_true rfl, (fun h => by cases h), Nat.le_of_ble_eq_true rfl, Nat.le_of_ble_eq_true rfl⟩)
     | (apply Exists.intro; apply And.intro; · first | exact rfl)
     | refine VLoop.unroll hE mixed ?_
     | fail
    all_goals (conv => whnf)
    all_goals rfl
  case neg =>
    have e : out [a] k = [a] := by simp [out, e0]
    rw [e]
    clear e hs
    refine PTriple.of_body (C := cx) Try.func34 rfl (by kernel_rfl) mixed fun E hE => ?_
    repeat' (conv => whnf); first
     | (refine bcase_of (fun hr => ?_) (fun hr => ?_) <;> (try simp [e0] at hr))
     | (apply And.intro; · first | exact Nat.le_of_ble_eq_true rfl | (show indep _ _ = true; kernel_rfl) | decide | exact of_decide_eq_true rfl | exact allOne_of rfl | exact pure_of rfl | exact ⟨Nat.le_of_ble_eq_true rfl, Nat.le_of_ble_eq_true rfl⟩ | exact ⟨Nat.le_of_ble_eq_true rfl, (fun h => by cases h), Nat.le_of_ble_eq_true rfl, Nat.le_of_ble_eq_true rfl⟩)
     | (apply Exists.intro; apply And.intro; · first | exact rfl)
     | refine VLoop.unroll hE mixed ?_
     | fail
    all_goals (conv => whnf)
    all_goals rfl
theorem rout_2 (a b : Int × Int) (hl : Lg [a, b]) (k : Int) : PTriple Try.prog gv 34 [pV [a, b], u32V k] (pV (out [a, b] k)) := by
  have hs := hl.srt
  simp only [List.pairwise_cons, List.mem_cons, List.not_mem_nil, forall_eq_or_imp, or_false, forall_eq] at hs
  clear hl
  by_cases e0 : a.1 = k
  case pos =>
    have e1 : ¬ b.1 = k := by omega
    have e : out [a, b] k = [b] := by simp [out, e0, e1]
    rw [e]
    clear e hs
    refine PTriple.of_body (C := cx) Try.func34 rfl (by kernel_rfl) mixed fun E hE => ?_
    repeat' (conv => whnf); first
     | (refine bcase_of (fun hr => ?_) (fun hr => ?_) <;> (try simp [e0, e1] at hr))
     | (apply And.intro; · first | exact Nat.le_of_ble_eq_true rfl | (show indep _ _ = true; kernel_rfl) | decide | exact of_decide_eq_true rfl | exact allOne_of rfl | exact pure_of rfl | exact ⟨Nat.le_of_ble_eq_true rfl, Nat.le_of_ble_eq_true rfl⟩ | exact ⟨Nat.le_of_ble_eq_true rfl, (fun h => by cases h), Nat.le_of_ble_eq_true rfl, Nat.le_of_ble_eq_true rfl⟩)
     | (apply Exists.intro; apply And.intro; · first | exact rfl)
     | refine VLoop.unroll hE mixed ?_
     | fail
    all_goals (conv => whnf)
    all_goals rfl
  case neg =>
    by_cases e1 : b.1 = k
    case pos =>
      have e : out [a, b] k = [a] := by simp [out, e0, e1]
      rw [e]
      clear e hs
      refine PTriple.of_body (C := cx) Try.func34 rfl (by kernel_rfl) mixed fun E hE => ?_
      repeat' (conv => whnf); first
       | (refine bcase_of (fun hr => ?_) (fun hr => ?_) <;> (try simp [e0, e1] at hr))
       | (apply And.intro; · first | exact Nat.le_of_ble_eq_true rfl | (show indep _ _ = true; kernel_rfl) | decide | exact of_decide_eq_true rfl | exact allOne_of rfl | exact pure_of rfl | exact ⟨Nat.le_of_ble_eq_true rfl, Nat.le_of_ble_eq_true rfl⟩ | exact ⟨Nat.le_of_ble_eq_true rfl, (fun h => by cases h), Nat.le_of_ble_eq_true rfl, Nat.le_of_ble_eq_true rfl⟩)
       | (apply Exists.intro; apply And.intro; · first | exact rfl)
       | refine VLoop.unroll hE mixed ?_
       | fail
      all_goals (conv => whnf)
      all_goals rfl
    case neg =>
      have e : out [a, b] k = [a, b] := by simp [out, e0, e1]
      rw [e]
      clear e hs
      refine PTriple.of_body (C := cx) Try.func34 rfl (by kernel_rfl) mixed fun E hE => ?_
      repeat' (conv => whnf); first
       | (refine bcase_of (fun hr => ?_) (fun hr => ?_) <;> (try simp [e0, e1] at hr))
       | (apply And.intro; · first | exact Nat.le_of_ble_eq_true rfl | (show indep _ _ = true; kernel_rfl) | decide | exact of_decide_eq_true rfl | exact allOne_of rfl | exact pure_of rfl | exact ⟨Nat.le_of_ble_eq_true rfl, Nat.le_of_ble_eq_true rfl⟩ | exact ⟨Nat.le_of_ble_eq_true rfl, (fun h => by cases h), Nat.le_of_ble_eq_true rfl, Nat.le_of_ble_eq_true rfl⟩)
       | (apply Exists.intro; apply And.intro; · first | exact rfl)
       | refine VLoop.unroll hE mixed ?_
       | fail
      all_goals (conv => whnf)
      all_goals rfl
theorem rout_3 (a b c : Int × Int) (hl : Lg [a, b, c]) (k : Int) : PTriple Try.prog gv 34 [pV [a, b, c], u32V k] (pV (out [a, b, c] k)) := by
  have hs := hl.srt
  simp only [List.pairwise_cons, List.mem_cons, List.not_mem_nil, forall_eq_or_imp, or_false, forall_eq] at hs
  clear hl
  by_cases e0 : a.1 = k
  case pos =>
    have e1 : ¬ b.1 = k := by omega
    have e2 : ¬ c.1 = k := by omega
    have e : out [a, b, c] k = [b, c] := by simp [out, e0, e1, e2]
    rw [e]
    clear e hs
    refine PTriple.of_body (C := cx) Try.func34 rfl (by kernel_rfl) mixed fun E hE => ?_
    repeat' (conv => whnf); first
     | (refine bcase_of (fun hr => ?_) (fun hr => ?_) <;> (try simp [e0, e1, e2] at hr))
     | (apply And.intro; · first | exact Nat.le_of_ble_eq_true rfl | (show indep _ _ = true; kernel_rfl) | decide | exact of_decide_eq_true rfl | exact allOne_of rfl | exact pure_of rfl | exact ⟨Nat.le_of_ble_eq_true rfl, Nat.le_of_ble_eq_true rfl⟩ | exact ⟨Nat.le_of_ble_eq_true rfl, (fun h => by cases h), Nat.le_of_ble_eq_true rfl, Nat.le_of_ble_eq_true rfl⟩)
     | (apply Exists.intro; apply And.intro; · first | exact rfl)
     | refine VLoop.unroll hE mixed ?_
     | fail
    all_goals (conv => whnf)
    all_goals rfl
  case neg =>
    by_cases e1 : b.1 = k
    case pos =>
      have e2 : ¬ c.1 = k := by omega
      have e : out [a, b, c] k = [a, c] := by simp [out, e0, e1, e2]
      rw [e]
      clear e hs
      refine PTriple.of_body (C := cx) Try.func34 rfl (by kernel_rfl) mixed fun E hE => ?_
      repeat' (conv => whnf); first
       | (refine bcase_of (fun hr => ?_) (fun hr => ?_) <;> (try simp [e0, e1, e2] at hr))
       | (apply And.intro; · first | exact Nat.le_of_ble_eq_true rfl | (show indep _ _ = true; kernel_rfl) | decide | exact of_decide_eq_true rfl | exact allOne_of rfl | exact pure_of rfl | exact ⟨Nat.le_of_ble_eq_true rfl, Nat.le_of_ble_eq_true rfl⟩ | exact ⟨Nat.le_of_ble_eq_true rfl, (fun h => by cases h), Nat.le_of_ble_eq_true rfl, Nat.le_of_ble_eq_true rfl⟩)
       | (apply Exists.intro; apply And.intro; · first | exact rfl)
       | refine VLoop.unroll hE mixed ?_
       | fail
      all_goals (conv => whnf)
      all_goals rfl
    case neg =>
      by_cases e2 : c.1 = k
      case pos =>
        have e : out [a, b, c] k = [a, b] := by simp [out, e0, e1, e2]
        rw [e]
        clear e hs
        refine PTriple.of_body (C := cx) Try.func34 rfl (by kernel_rfl) mixed fun E hE => ?_
        repeat' (conv => whnf); first
         | (refine bcase_of (fun hr => ?_) (fun hr => ?_) <;> (try simp [e0, e1, e2] at hr))
         | (apply And.intro; · first | exact Nat.le_of_ble_eq_true rfl | (show indep _ _ = true; kernel_rfl) | decide | exact of_decide_eq_true rfl | exact allOne_of rfl | exact pure_of rfl | exact ⟨Nat.le_of_ble_eq_true rfl, Nat.le_of_ble_eq_true rfl⟩ | exact ⟨Nat.le_of_ble_eq_true rfl, (fun h => by cases h), Nat.le_of_ble_eq_true rfl, Nat.le_of_ble_eq_true rfl⟩)
         | (apply Exists.intro; apply And.intro; · first | exact rfl)
         | refine VLoop.unroll hE mixed ?_
         | fail
        all_goals (conv => whnf)
        all_goals rfl
      case neg =>
        have e : out [a, b, c] k = [a, b, c] := by simp [out, e0, e1, e2]
        rw [e]
        clear e hs
        refine PTriple.of_body (C := cx) Try.func34 rfl (by kernel_rfl) mixed fun E hE => ?_
        repeat' (conv => whnf); first
         | (refine bcase_of (fun hr => ?_) (fun hr => ?_) <;> (try simp [e0, e1, e2] at hr))
         | (apply And.intro; · first | exact Nat.le_of_ble_eq_true rfl | (show indep _ _ = true; kernel_rfl) | decide | exact of_decide_eq_true rfl | exact allOne_of rfl | exact pure_of rfl | exact ⟨Nat.le_of_ble_eq_true rfl, Nat.le_of_ble_eq_true rfl⟩ | exact ⟨Nat.le_of_ble_eq_true rfl, (fun h => by cases h), Nat.le_of_ble_eq_true rfl, Nat.le_of_ble_eq_true rfl⟩)
         | (apply Exists.intro; apply And.intro; · first | exact rfl)
         | refine VLoop.unroll hE mixed ?_
         | fail
        all_goals (conv => whnf)
        all_goals rfl
theorem rout_4 (a b c d : Int × Int) (hl : Lg [a, b, c, d]) (k : Int) : PTriple Try.prog gv 34 [pV [a, b, c, d], u32V k] (pV (out [a, b, c, d] k)) := by
  have hs := hl.srt
  simp only [List.pairwise_cons, List.mem_cons, List.not_mem_nil, forall_eq_or_imp, or_false, forall_eq] at hs
  clear hl
  by_cases e0 : a.1 = k
  case pos =>
    have e1 : ¬ b.1 = k := by omega
    have e2 : ¬ c.1 = k := by omega
    have e3 : ¬ d.1 = k := by omega
    have e : out [a, b, c, d] k = [b, c, d] := by simp [out, e0, e1, e2, e3]
    rw [e]
    clear e hs
    refine PTriple.of_body (C := cx) Try.func34 rfl (by kernel_rfl) mixed fun E hE => ?_
    repeat' (conv => whnf); first
     | (refine bcase_of (fun hr => ?_) (fun hr => ?_) <;> (try simp [e0, e1, e2, e3] at hr))
     | (apply And.intro; · first | exact Nat.le_of_ble_eq_true rfl | (show indep _ _ = true; kernel_rfl) | decide | exact of_decide_eq_true rfl | exact allOne_of rfl | exact pure_of rfl | exact ⟨Nat.le_of_ble_eq_true rfl, Nat.le_of_ble_eq_true rfl⟩ | exact ⟨Nat.le_of_ble_eq_true rfl, (fun h => by cases h), Nat.le_of_ble_eq_true rfl, Nat.le_of_ble_eq_true rfl⟩)
     | (apply Exists.intro; apply And.intro; · first | exact rfl)
     | refine VLoop.unroll hE mixed ?_
     | fail
    all_goals (conv => whnf)
    all_goals rfl
  case neg =>
    by_cases e1 : b.1 = k
    case pos =>
      have e2 : ¬ c.1 = k := by omega
      have e3 : ¬ d.1 = k := by omega
      have e : out [a, b, c, d] k = [a, c, d] := by simp [out, e0, e1, e2, e3]
      rw [e]
      clear e hs
      refine PTriple.of_body (C := cx) Try.func34 rfl (by kernel_rfl) mixed fun E hE => ?_
      repeat' (conv => whnf); first
       | (refine bcase_of (fun hr => ?_) (fun hr => ?_) <;> (try simp [e0, e1, e2, e3] at hr))
       | (apply And.intro; · first | exact Nat.le_of_ble_eq_true rfl | (show indep _ _ = true; kernel_rfl) | decide | exact of_decide_eq_true rfl | exact allOne_of rfl | exact pure_of rfl | exact ⟨Nat.le_of_ble_eq_true rfl, Nat.le_of_ble_eq_true rfl⟩ | exact ⟨Nat.le_of_ble_eq_true rfl, (fun h => by cases h), Nat.le_of_ble_eq_true rfl, Nat.le_of_ble_eq_true rfl⟩)
       | (apply Exists.intro; apply And.intro; · first | exact rfl)
       | refine VLoop.unroll hE mixed ?_
       | fail
      all_goals (conv => whnf)
      all_goals rfl
    case neg =>
      by_cases e2 : c.1 = k
      case pos =>
        have e3 : ¬ d.1 = k := by omega
        have e : out [a, b, c, d] k = [a, b, d] := by simp [out, e0, e1, e2, e3]
        rw [e]
        clear e hs
        refine PTriple.of_body (C := cx) Try.func34 rfl (by kernel_rfl) mixed fun E hE => ?_
        repeat' (conv => whnf); first
         | (refine bcase_of (fun hr => ?_) (fun hr => ?_) <;> (try simp [e0, e1, e2, e3] at hr))
         | (apply And.intro; · first | exact Nat.le_of_ble_eq_true rfl | (show indep _ _ = true; kernel_rfl) | decide | exact of_decide_eq_true rfl | exact allOne_of rfl | exact pure_of rfl | exact ⟨Nat.le_of_ble_eq_true rfl, Nat.le_of_ble_eq_true rfl⟩ | exact ⟨Nat.le_of_ble_eq_true rfl, (fun h => by cases h), Nat.le_of_ble_eq_true rfl, Nat.le_of_ble_eq_true rfl⟩)
         | (apply Exists.intro; apply And.intro; · first | exact rfl)
         | refine VLoop.unroll hE mixed ?_
         | fail
        all_goals (conv => whnf)
        all_goals rfl
      case neg =>
        by_cases e3 : d.1 = k
        case pos =>
          have e : out [a, b, c, d] k = [a, b, c] := by simp [out, e0, e1, e2, e3]
          rw [e]
          clear e hs
          refine PTriple.of_body (C := cx) Try.func34 rfl (by kernel_rfl) mixed fun E hE => ?_
          repeat' (conv => whnf); first
           | (refine bcase_of (fun hr => ?_) (fun hr => ?_) <;> (try simp [e0, e1, e2, e3] at hr))
           | (apply And.intro; · first | exact Nat.le_of_ble_eq_true rfl | (show indep _ _ = true; kernel_rfl) | decide | exact of_decide_eq_true rfl | exact allOne_of rfl | exact pure_of rfl | exact ⟨Nat.le_of_ble_eq_true rfl, Nat.le_of_ble_eq_true rfl⟩ | exact ⟨Nat.le_of_ble_eq_true rfl, (fun h => by cases h), Nat.le_of_ble_eq_true rfl, Nat.le_of_ble_eq_true rfl⟩)
           | (apply Exists.intro; apply And.intro; · first | exact rfl)
           | refine VLoop.unroll hE mixed ?_
           | fail
          all_goals (conv => whnf)
          all_goals rfl
        case neg =>
          have e : out [a, b, c, d] k = [a, b, c, d] := by simp [out, e0, e1, e2, e3]
          rw [e]
          clear e hs
          refine PTriple.of_body (C := cx) Try.func34 rfl (by kernel_rfl) mixed fun E hE => ?_
          repeat' (conv => whnf); first
           | (refine bcase_of (fun hr => ?_) (fun hr => ?_) <;> (try simp [e0, e1, e2, e3] at hr))
           | (apply And.intro; · first | exact Nat.le_of_ble_eq_true rfl | (show indep _ _ = true; kernel_rfl) | decide | exact of_decide_eq_true rfl | exact allOne_of rfl | exact pure_of rfl | exact ⟨Nat.le_of_ble_eq_true rfl, Nat.le_of_ble_eq_true rfl⟩ | exact ⟨Nat.le_of_ble_eq_true rfl, (fun h => by cases h), Nat.le_of_ble_eq_true rfl, Nat.le_of_ble_eq_true rfl⟩)
           | (apply Exists.intro; apply And.intro; · first | exact rfl)
           | refine VLoop.unroll hE mixed ?_
           | fail
          all_goals (conv => whnf)
          all_goals rfl
theorem rout_5 (a b c d e : Int × Int) (hl : Lg [a, b, c, d, e]) (k : Int) : PTriple Try.prog gv 34 [pV [a, b, c, d, e], u32V k] (pV (out [a, b, c, d, e] k)) := by
  have hs := hl.srt
  simp only [List.pairwise_cons, List.mem_cons, List.not_mem_nil, forall_eq_or_imp, or_false, forall_eq] at hs
  clear hl
  by_cases e0 : a.1 = k
  case pos =>
    have e1 : ¬ b.1 = k := by omega
    have e2 : ¬ c.1 = k := by omega
    have e3 : ¬ d.1 = k := by omega
    have e4 : ¬ e.1 = k := by omega
    have e : out [a, b, c, d, e] k = [b, c, d, e] := by simp [out, e0, e1, e2, e3, e4]
    rw [e]
    clear e hs
    refine PTriple.of_body (C := cx) Try.func34 rfl (by kernel_rfl) mixed fun E hE => ?_
    repeat' (conv => whnf); first
     | (refine bcase_of (fun hr => ?_) (fun hr => ?_) <;> (try simp [e0, e1, e2, e3, e4] at hr))
     | (apply And.intro; · first | exact Nat.le_of_ble_eq_true rfl | (show indep _ _ = true; kernel_rfl) | decide | exact of_decide_eq_true rfl | exact allOne_of rfl | exact pure_of rfl | exact ⟨Nat.le_of_ble_eq_true rfl, Nat.le_of_ble_eq_true rfl⟩ | exact ⟨Nat.le_of_ble_eq_true rfl, (fun h => by cases h), Nat.le_of_ble_eq_true rfl, Nat.le_of_ble_eq_true rfl⟩)
     | (apply Exists.intro; apply And.intro; · first | exact rfl)
     | refine VLoop.unroll hE mixed ?_
     | fail
    all_goals (conv => whnf)
    all_goals rfl
  case neg =>
    by_cases e1 : b.1 = k
    case pos =>
      have e2 : ¬ c.1 = k := by omega
      have e3 : ¬ d.1 = k := by omega
      have e4 : ¬ e.1 = k := by omega
      have e : out [a, b, c, d, e] k = [a, c, d, e] := by simp [out, e0, e1, e2, e3, e4]
      rw [e]
      clear e hs
      refine PTriple.of_body (C := cx) Try.func34 rfl (by kernel_rfl) mixed fun E hE => ?_
      repeat' (conv => whnf); first
       | (refine bcase_of (fun hr => ?_) (fun hr => ?_) <;> (try simp [e0, e1, e2, e3, e4] at hr))
       | (apply And.intro; · first | exact Nat.le_of_ble_eq_true rfl | (show indep _ _ = true; kernel_rfl) | decide | exact of_decide_eq_true rfl | exact allOne_of rfl | exact pure_of rfl | exact ⟨Nat.le_of_ble_eq_true rfl, Nat.le_of_ble_eq_true rfl⟩ | exact ⟨Nat.le_of_ble_eq_true rfl, (fun h => by cases h), Nat.le_of_ble_eq_true rfl, Nat.le_of_ble_eq_true rfl⟩)
       | (apply Exists.intro; apply And.intro; · first | exact rfl)
       | refine VLoop.unroll hE mixed ?_
       | fail
      all_goals (conv => whnf)
      all_goals rfl
    case neg =>
      by_cases e2 : c.1 = k
      case pos =>
        have e3 : ¬ d.1 = k := by omega
        have e4 : ¬ e.1 = k := by omega
        have e : out [a, b, c, d, e] k = [a, b, d, e] := by simp [out, e0, e1, e2, e3, e4]
        rw [e]
        clear e hs
        refine PTriple.of_body (C := cx) Try.func34 rfl (by kernel_rfl) mixed fun E hE => ?_
        repeat' (conv => whnf); first
         | (refine bcase_of (fun hr => ?_) (fun hr => ?_) <;> (try simp [e0, e1, e2, e3, e4] at hr))
         | (apply And.intro; · first | exact Nat.le_of_ble_eq_true rfl | (show indep _ _ = true; kernel_rfl) | decide | exact of_decide_eq_true rfl | exact allOne_of rfl | exact pure_of rfl | exact ⟨Nat.le_of_ble_eq_true rfl, Nat.le_of_ble_eq_true rfl⟩ | exact ⟨Nat.le_of_ble_eq_true rfl, (fun h => by cases h), Nat.le_of_ble_eq_true rfl, Nat.le_of_ble_eq_true rfl⟩)
         | (apply Exists.intro; apply And.intro; · first | exact rfl)
         | refine VLoop.unroll hE mixed ?_
         | fail
        all_goals (conv => whnf)
        all_goals rfl
      case neg =>
        by_cases e3 : d.1 = k
        case pos =>
          have e4 : ¬ e.1 = k := by omega
          have e : out [a, b, c, d, e] k = [a, b, c, e] := by simp [out, e0, e1, e2, e3, e4]
          rw [e]
          clear e hs
          refine PTriple.of_body (C := cx) Try.func34 rfl (by kernel_rfl) mixed fun E hE => ?_
          repeat' (conv => whnf); first
           | (refine bcase_of (fun hr => ?_) (fun hr => ?_) <;> (try simp [e0, e1, e2, e3, e4] at hr))
           | (apply And.intro; · first | exact Nat.le_of_ble_eq_true rfl | (show indep _ _ = true; kernel_rfl) | decide | exact of_decide_eq_true rfl | exact allOne_of rfl | exact pure_of rfl | exact ⟨Nat.le_of_ble_eq_true rfl, Nat.le_of_ble_eq_true rfl⟩ | exact ⟨Nat.le_of_ble_eq_true rfl, (fun h => by cases h), Nat.le_of_ble_eq_true rfl, Nat.le_of_ble_eq_true rfl⟩)
           | (apply Exists.intro; apply And.intro; · first | exact rfl)
           | refine VLoop.unroll hE mixed ?_
           | fail
          all_goals (conv => whnf)
          all_goals rfl
        case neg =>
          by_cases e4 : e.1 = k
          case pos =>
            have e : out [a, b, c, d, e] k = [a, b, c, d] := by simp [out, e0, e1, e2, e3, e4]
            rw [e]
            clear e hs
            refine PTriple.of_body (C := cx) Try.func34 rfl (by kernel_rfl) mixed fun E hE => ?_
            repeat' (conv => whnf); first
             | (refine bcase_of (fun hr => ?_) (fun hr => ?_) <;> (try simp [e0, e1, e2, e3, e4] at hr))
             | (apply And.intro; · first | exact Nat.le_of_ble_eq_true rfl | (show indep _ _ = true; kernel_rfl) | decide | exact of_decide_eq_true rfl | exact allOne_of rfl | exact pure_of rfl | exact ⟨Nat.le_of_ble_eq_true rfl, Nat.le_of_ble_eq_true rfl⟩ | exact ⟨Nat.le_of_ble_eq_true rfl, (fun h => by cases h), Nat.le_of_ble_eq_true rfl, Nat.le_of_ble_eq_true rfl⟩)
             | (apply Exists.intro; apply And.intro; · first | exact rfl)
             | refine VLoop.unroll hE mixed ?_
             | fail
            all_goals (conv => whnf)
            all_goals rfl
          case neg =>
            have e : out [a, b, c, d, e] k = [a, b, c, d, e] := by simp [out, e0, e1, e2, e3, e4]
            rw [e]
            clear e hs
            refine PTriple.of_body (C := cx) Try.func34 rfl (by kernel_rfl) mixed fun E hE => ?_
            repeat' (conv => whnf); first
             | (refine bcase_of (fun hr => ?_) (fun hr => ?_) <;> (try simp [e0, e1, e2, e3, e4] at hr))
             | (apply And.intro; · first | exact Nat.le_of_ble_eq_true rfl | (show indep _ _ = true; kernel_rfl) | decide | exact of_decide_eq_true rfl | exact allOne_of rfl | exact pure_of rfl | exact ⟨Nat.le_of_ble_eq_true rfl, Nat.le_of_ble_eq_true rfl⟩ | exact ⟨Nat.le_of_ble_eq_true rfl, (fun h => by cases h), Nat.le_of_ble_eq_true rfl, Nat.le_of_ble_eq_true rfl⟩)
             | (apply Exists.intro; apply And.intro; · first | exact rfl)
             | refine VLoop.unroll hE mixed ?_
             | fail
            all_goals (conv => whnf)
            all_goals rfl
theorem rout_6 (a b c d e f : Int × Int) (hl : Lg [a, b, c, d, e, f]) (k : Int) : PTriple Try.prog gv 34 [pV [a, b, c, d, e, f], u32V k] (pV (out [a, b, c, d, e, f] k)) := by
  have hs := hl.srt
  simp only [List.pairwise_cons, List.mem_cons, List.not_mem_nil, forall_eq_or_imp, or_false, forall_eq] at hs
  clear hl
  by_cases e0 : a.1 = k
  case pos =>
    have e1 : ¬ b.1 = k := by omega
    have e2 : ¬ c.1 = k := by omega
    have e3 : ¬ d.1 = k := by omega
    have e4 : ¬ e.1 = k := by omega
    have e5 : ¬ f.1 = k := by omega
    have e : out [a, b, c, d, e, f] k = [b, c, d, e, f] := by simp [out, e0, e1, e2, e3, e4, e5]
    rw [e]
    clear e hs
    refine PTriple.of_body (C := cx) Try.func34 rfl (by kernel_rfl) mixed fun E hE => ?_
    repeat' (conv => whnf); first
     | (refine bcase_of (fun hr => ?_) (fun hr => ?_) <;> (try simp [e0, e1, e2, e3, e4, e5] at hr))
     | (apply And.intro; · first | exact Nat.le_of_ble_eq_true rfl | (show indep _ _ = true; kernel_rfl) | decide | exact of_decide_eq_true rfl | exact allOne_of rfl | exact pure_of rfl | exact ⟨Nat.le_of_ble_eq_true rfl, Nat.le_of_ble_eq_true rfl⟩ | exact ⟨Nat.le_of_ble_eq_true rfl, (fun h => by cases h), Nat.le_of_ble_eq_true rfl, Nat.le_of_ble_eq_true rfl⟩)
     | (apply Exists.intro; apply And.intro; · first | exact rfl)
     | refine VLoop.unroll hE mixed ?_
     | fail
    all_goals (conv => whnf)
    all_goals rfl
  case neg =>
    by_cases e1 : b.1 = k
    case pos =>
      have e2 : ¬ c.1 = k := by omega
      have e3 : ¬ d.1 = k := by omega
      have e4 : ¬ e.1 = k := by omega
      have e5 : ¬ f.1 = k := by omega
      have e : out [a, b, c, d, e, f] k = [a, c, d, e, f] := by simp [out, e0, e1, e2, e3, e4, e5]
      rw [e]
      clear e hs
      refine PTriple.of_body (C := cx) Try.func34 rfl (by kernel_rfl) mixed fun E hE => ?_
      repeat' (conv => whnf); first
       | (refine bcase_of (fun hr => ?_) (fun hr => ?_) <;> (try simp [e0, e1, e2, e3, e4, e5] at hr))
       | (apply And.intro; · first | exact Nat.le_of_ble_eq_true rfl | (show indep _ _ = true; kernel_rfl) | decide | exact of_decide_eq_true rfl | exact allOne_of rfl | exact pure_of rfl | exact ⟨Nat.le_of_ble_eq_true rfl, Nat.le_of_ble_eq_true rfl⟩ | exact ⟨Nat.le_of_ble_eq_true rfl, (fun h => by cases h), Nat.le_of_ble_eq_true rfl, Nat.le_of_ble_eq_true rfl⟩)
       | (apply Exists.intro; apply And.intro; · first | exact rfl)
       | refine VLoop.unroll hE mixed ?_
       | fail
      all_goals (conv => whnf)
      all_goals rfl
    case neg =>
      by_cases e2 : c.1 = k
      case pos =>
        have e3 : ¬ d.1 = k := by omega
        have e4 : ¬ e.1 = k := by omega
        have e5 : ¬ f.1 = k := by omega
        have e : out [a, b, c, d, e, f] k = [a, b, d, e, f] := by simp [out, e0, e1, e2, e3, e4, e5]
        rw [e]
        clear e hs
        refine PTriple.of_body (C := cx) Try.func34 rfl (by kernel_rfl) mixed fun E hE => ?_
        repeat' (conv => whnf); first
         | (refine bcase_of (fun hr => ?_) (fun hr => ?_) <;> (try simp [e0, e1, e2, e3, e4, e5] at hr))
         | (apply And.intro; · first | exact Nat.le_of_ble_eq_true rfl | (show indep _ _ = true; kernel_rfl) | decide | exact of_decide_eq_true rfl | exact allOne_of rfl | exact pure_of rfl | exact ⟨Nat.le_of_ble_eq_true rfl, Nat.le_of_ble_eq_true rfl⟩ | exact ⟨Nat.le_of_ble_eq_true rfl, (fun h => by cases h), Nat.le_of_ble_eq_true rfl, Nat.le_of_ble_eq_true rfl⟩)
         | (apply Exists.intro; apply And.intro; · first | exact rfl)
         | refine VLoop.unroll hE mixed ?_
         | fail
        all_goals (conv => whnf)
        all_goals rfl
      case neg =>
        by_cases e3 : d.1 = k
        case pos =>
          have e4 : ¬ e.1 = k := by omega
          have e5 : ¬ f.1 = k := by omega
          have e : out [a, b, c, d, e, f] k = [a, b, c, e, f] := by simp [out, e0, e1, e2, e3, e4, e5]
          rw [e]
          clear e hs
          refine PTriple.of_body (C := cx) Try.func34 rfl (by kernel_rfl) mixed fun E hE => ?_
          repeat' (conv => whnf); first
           | (refine bcase_of (fun hr => ?_) (fun hr => ?_) <;> (try simp [e0, e1, e2, e3, e4, e5] at hr))
           | (apply And.intro; · first | exact Nat.le_of_ble_eq_true rfl | (show indep _ _ = true; kernel_rfl) | decide | exact of_decide_eq_true rfl | exact allOne_of rfl | exact pure_of rfl | exact ⟨Nat.le_of_ble_eq_true rfl, Nat.le_of_ble_eq_true rfl⟩ | exact ⟨Nat.le_of_ble_eq_true rfl, (fun h => by cases h), Nat.le_of_ble_eq_true rfl, Nat.le_of_ble_eq_true rfl⟩)
           | (apply Exists.intro; apply And.intro; · first | exact rfl)
           | refine VLoop.unroll hE mixed ?_
           | fail
          all_goals (conv => whnf)
          all_goals rfl
        case neg =>
          by_cases e4 : e.1 = k
          case pos =>
            have e5 : ¬ f.1 = k := by omega
            have e : out [a, b, c, d, e, f] k = [a, b, c, d, f] := by simp [out, e0, e1, e2, e3, e4, e5]
            rw [e]
            clear e hs
            refine PTriple.of_body (C := cx) Try.func34 rfl (by kernel_rfl) mixed fun E hE => ?_
            repeat' (conv => whnf); first
             | (refine bcase_of (fun hr => ?_) (fun hr => ?_) <;> (try simp [e0, e1, e2, e3, e4, e5] at hr))
             | (apply And.intro; · first | exact Nat.le_of_ble_eq_true rfl | (show indep _ _ = true; kernel_rfl) | decide | exact of_decide_eq_true rfl | exact allOne_of rfl | exact pure_of rfl | exact ⟨Nat.le_of_ble_eq_true rfl, Nat.le_of_ble_eq_true rfl⟩ | exact ⟨Nat.le_of_ble_eq_true rfl, (fun h => by cases h), Nat.le_of_ble_eq_true rfl, Nat.le_of_ble_eq_true rfl⟩)
             | (apply Exists.intro; apply And.intro; · first | exact rfl)
             | refine VLoop.unroll hE mixed ?_
             | fail
            all_goals (conv => whnf)
            all_goals rfl
          case neg =>
            by_cases e5 : f.1 = k
            case pos =>
              have e : out [a, b, c, d, e, f] k = [a, b, c, d, e] := by simp [out, e0, e1, e2, e3, e4, e5]
              rw [e]
              clear e hs
              refine PTriple.of_body (C := cx) Try.func34 rfl (by kernel_rfl) mixed fun E hE => ?_
              repeat' (conv => whnf); first
               | (refine bcase_of (fun hr => ?_) (fun hr => ?_) <;> (try simp [e0, e1, e2, e3, e4, e5] at hr))
               | (apply And.intro; · first | exact Nat.le_of_ble_eq_true rfl | (show indep _ _ = true; kernel_rfl) | decide | exact of_decide_eq_true rfl | exact allOne_of rfl | exact pure_of rfl | exact ⟨Nat.le_of_ble_eq_true rfl, Nat.le_of_ble_eq_true rfl⟩ | exact ⟨Nat.le_of_ble_eq_true rfl, (fun h => by cases h), Nat.le_of_ble_eq_true rfl, Nat.le_of_ble_eq_true rfl⟩)
               | (apply Exists.intro; apply And.intro; · first | exact rfl)
               | refine VLoop.unroll hE mixed ?_
               | fail
              all_goals (conv => whnf)
              all_goals rfl
            case neg =>
              have e : out [a, b, c, d, e, f] k = [a, b, c, d, e, f] := by simp [out, e0, e1, e2, e3, e4, e5]
              rw [e]
              clear e hs
              refine PTriple.of_body (C := cx) Try.func34 rfl (by kernel_rfl) mixed fun E hE => ?_
              repeat' (conv => whnf); first
               | (refine bcase_of (fun hr => ?_) (fun hr => ?_) <;> (try simp [e0, e1, e2, e3, e4, e5] at hr))
               | (apply And.intro; · first | exact Nat.le_of_ble_eq_true rfl | (show indep _ _ = true; kernel_rfl) | decide | exact of_decide_eq_true rfl | exact allOne_of rfl | exact pure_of rfl | exact ⟨Nat.le_of_ble_eq_true rfl, Nat.le_of_ble_eq_true rfl⟩ | exact ⟨Nat.le_of_ble_eq_true rfl, (fun h => by cases h), Nat.le_of_ble_eq_true rfl, Nat.le_of_ble_eq_true rfl⟩)
               | (apply Exists.intro; apply And.intro; · first | exact rfl)
               | refine VLoop.unroll hE mixed ?_
               | fail
              all_goals (conv => whnf)
              all_goals rfl
theorem rout_ok (l : List (Int × Int)) (hl : Lg l) (k : Int) : PTriple Try.prog gv 34 [pV l, u32V k] (pV (out l k)) := by
  rcases len_cases (hl.len) with rfl | ⟨a, rfl⟩ | ⟨a, b, rfl⟩ | ⟨a, b, c, rfl⟩ | ⟨a, b, c, d, rfl⟩ | ⟨a, b, c, d, e, rfl⟩ | ⟨a, b, c, d, e, f, rfl⟩
  · exact rout_0  k
  · exact rout_1 a hl k
  · exact rout_2 a b hl k
  · exact rout_3 a b c hl k
  · exact rout_4 a b c d hl k
  · exact rout_5 a b c d e hl k
  · exact rout_6 a b c d e f hl k
end Go.Proofs.Ytbppemcdphgknaa.T
