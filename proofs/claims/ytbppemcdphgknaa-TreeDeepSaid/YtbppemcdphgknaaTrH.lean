/- Chapter 16: what its functions come to (TrH): blocks of lists. -/
import Derived.Test.YtbppemcdphgknaaTrG
set_option linter.unusedVariables false
set_option linter.unusedSimpArgs false
namespace Go.Proofs.Ytbppemcdphgknaa.T
open Go Go.Vm
set_option maxRecDepth 100000
set_option maxHeartbeats 4000000
set_option linter.unusedSimpArgs false
set_option linter.unusedVariables false
theorem take_eq {l : List (Int × Int)} (hl : l.length ≤ 6) {n : Nat} (h : n ≤ l.length) : ofB (B l) 0 n = B (l.take n) := by
  rcases (show n = 0 ∨ n = 1 ∨ n = 2 ∨ n = 3 ∨ n = 4 ∨ n = 5 ∨ n = 6 by omega) with rfl | rfl | rfl | rfl | rfl | rfl | rfl
  all_goals
    rcases len_cases (hl) with rfl | ⟨a, rfl⟩ | ⟨a, b, rfl⟩ | ⟨a, b, c, rfl⟩ | ⟨a, b, c, d, rfl⟩ | ⟨a, b, c, d, e, rfl⟩ | ⟨a, b, c, d, e, f, rfl⟩
  all_goals first | rfl | (exfalso; revert h; simp; done)
theorem drop_eq {l : List (Int × Int)} (hl : l.length ≤ 6) {n : Nat} (h : n ≤ l.length) : ofB (B l) n l.length = B (l.drop n) := by
  rcases (show n = 0 ∨ n = 1 ∨ n = 2 ∨ n = 3 ∨ n = 4 ∨ n = 5 ∨ n = 6 by omega) with rfl | rfl | rfl | rfl | rfl | rfl | rfl
  all_goals
    rcases len_cases (hl) with rfl | ⟨a, rfl⟩ | ⟨a, b, rfl⟩ | ⟨a, b, c, rfl⟩ | ⟨a, b, c, d, rfl⟩ | ⟨a, b, c, d, e, rfl⟩ | ⟨a, b, c, d, e, f, rfl⟩
  all_goals first | rfl | (exfalso; revert h; simp; done)
theorem beh_eq {l m : List (Int × Int)} (hl : l.length ≤ 6) (hm : m.length ≤ 6) {t : Nat} (ht : t ≤ m.length) (h : l.length + t ≤ 6) : behB (B l) (B m) 0 t = B (l ++ m.take t) := by
  rcases (show t = 0 ∨ t = 1 ∨ t = 2 ∨ t = 3 ∨ t = 4 ∨ t = 5 ∨ t = 6 by omega) with rfl | rfl | rfl | rfl | rfl | rfl | rfl
  all_goals
    rcases len_cases (hl) with rfl | ⟨a, rfl⟩ | ⟨a, b, rfl⟩ | ⟨a, b, c, rfl⟩ | ⟨a, b, c, d, rfl⟩ | ⟨a, b, c, d, e, rfl⟩ | ⟨a, b, c, d, e, f, rfl⟩
  all_goals
    rcases len_cases (hm) with rfl | ⟨a, rfl⟩ | ⟨a, b, rfl⟩ | ⟨a, b, c, rfl⟩ | ⟨a, b, c, d, rfl⟩ | ⟨a, b, c, d, e, rfl⟩ | ⟨a, b, c, d, e, f, rfl⟩
  all_goals first | rfl | (exfalso; revert ht h; simp; done)
theorem oute_1 (a : Int × Int) (hl : Lg [a]) (k : Int) (h : has [a] k = true) : behB (ofB (B [a]) 0 (rank [a] k)) (B [a]) (rank [a] k + 1) 1 = B (out [a] k) := by
  have hs := hl.srt
  simp only [List.pairwise_cons, List.mem_cons, List.not_mem_nil, forall_eq_or_imp, or_false, forall_eq] at hs
  by_cases h0 : a.1 < k
  case neg =>
    by_cases e0 : a.1 = k
    case pos =>
      have ee : out [a] k = [] := by simp [out, e0]
      have ff : rank [a] k = 0 := by simp [rank, h0, e0]
      rw [ee, ff]
      rfl
    case neg =>
      exfalso
      simp [has, h0, e0] at h
  case pos =>
    exfalso
    simp [has, h0] at h
theorem oute_2 (a b : Int × Int) (hl : Lg [a, b]) (k : Int) (h : has [a, b] k = true) : behB (ofB (B [a, b]) 0 (rank [a, b] k)) (B [a, b]) (rank [a, b] k + 1) 2 = B (out [a, b] k) := by
  have hs := hl.srt
  simp only [List.pairwise_cons, List.mem_cons, List.not_mem_nil, forall_eq_or_imp, or_false, forall_eq] at hs
  by_cases h0 : a.1 < k
  case neg =>
    by_cases e0 : a.1 = k
    case pos =>
      have z1 : ¬ b.1 = k := by omega
      have ee : out [a, b] k = [b] := by simp [out, e0, z1]
      have ff : rank [a, b] k = 0 := by simp [rank, h0, e0]
      rw [ee, ff]
      rfl
    case neg =>
      exfalso
      simp [has, h0, e0] at h
  case pos =>
    by_cases h1 : b.1 < k
    case neg =>
      by_cases e1 : b.1 = k
      case pos =>
        have z0 : ¬ a.1 = k := by omega
        have ee : out [a, b] k = [a] := by simp [out, e1, z0]
        have ff : rank [a, b] k = 1 := by simp [rank, h0, h1, e1]
        rw [ee, ff]
        rfl
      case neg =>
        exfalso
        simp [has, h0, h1, e1] at h
    case pos =>
      exfalso
      simp [has, h0, h1] at h
theorem oute_3 (a b c : Int × Int) (hl : Lg [a, b, c]) (k : Int) (h : has [a, b, c] k = true) : behB (ofB (B [a, b, c]) 0 (rank [a, b, c] k)) (B [a, b, c]) (rank [a, b, c] k + 1) 3 = B (out [a, b, c] k) := by
  have hs := hl.srt
  simp only [List.pairwise_cons, List.mem_cons, List.not_mem_nil, forall_eq_or_imp, or_false, forall_eq] at hs
  by_cases h0 : a.1 < k
  case neg =>
    by_cases e0 : a.1 = k
    case pos =>
      have z1 : ¬ b.1 = k := by omega
      have z2 : ¬ c.1 = k := by omega
      have ee : out [a, b, c] k = [b, c] := by simp [out, e0, z1, z2]
      have ff : rank [a, b, c] k = 0 := by simp [rank, h0, e0]
      rw [ee, ff]
      rfl
    case neg =>
      exfalso
      simp [has, h0, e0] at h
  case pos =>
    by_cases h1 : b.1 < k
    case neg =>
      by_cases e1 : b.1 = k
      case pos =>
        have z0 : ¬ a.1 = k := by omega
        have z2 : ¬ c.1 = k := by omega
        have ee : out [a, b, c] k = [a, c] := by simp [out, e1, z0, z2]
        have ff : rank [a, b, c] k = 1 := by simp [rank, h0, h1, e1]
        rw [ee, ff]
        rfl
      case neg =>
        exfalso
        simp [has, h0, h1, e1] at h
    case pos =>
      by_cases h2 : c.1 < k
      case neg =>
        by_cases e2 : c.1 = k
        case pos =>
          have z0 : ¬ a.1 = k := by omega
          have z1 : ¬ b.1 = k := by omega
          have ee : out [a, b, c] k = [a, b] := by simp [out, e2, z0, z1]
          have ff : rank [a, b, c] k = 2 := by simp [rank, h0, h1, h2, e2]
          rw [ee, ff]
          rfl
        case neg =>
          exfalso
          simp [has, h0, h1, h2, e2] at h
      case pos =>
        exfalso
        simp [has, h0, h1, h2] at h
theorem oute_4 (a b c d : Int × Int) (hl : Lg [a, b, c, d]) (k : Int) (h : has [a, b, c, d] k = true) : behB (ofB (B [a, b, c, d]) 0 (rank [a, b, c, d] k)) (B [a, b, c, d]) (rank [a, b, c, d] k + 1) 4 = B (out [a, b, c, d] k) := by
  have hs := hl.srt
  simp only [List.pairwise_cons, List.mem_cons, List.not_mem_nil, forall_eq_or_imp, or_false, forall_eq] at hs
  by_cases h0 : a.1 < k
  case neg =>
    by_cases e0 : a.1 = k
    case pos =>
      have z1 : ¬ b.1 = k := by omega
      have z2 : ¬ c.1 = k := by omega
      have z3 : ¬ d.1 = k := by omega
      have ee : out [a, b, c, d] k = [b, c, d] := by simp [out, e0, z1, z2, z3]
      have ff : rank [a, b, c, d] k = 0 := by simp [rank, h0, e0]
      rw [ee, ff]
      rfl
    case neg =>
      exfalso
      simp [has, h0, e0] at h
  case pos =>
    by_cases h1 : b.1 < k
    case neg =>
      by_cases e1 : b.1 = k
      case pos =>
        have z0 : ¬ a.1 = k := by omega
        have z2 : ¬ c.1 = k := by omega
        have z3 : ¬ d.1 = k := by omega
        have ee : out [a, b, c, d] k = [a, c, d] := by simp [out, e1, z0, z2, z3]
        have ff : rank [a, b, c, d] k = 1 := by simp [rank, h0, h1, e1]
        rw [ee, ff]
        rfl
      case neg =>
        exfalso
        simp [has, h0, h1, e1] at h
    case pos =>
      by_cases h2 : c.1 < k
      case neg =>
        by_cases e2 : c.1 = k
        case pos =>
          have z0 : ¬ a.1 = k := by omega
          have z1 : ¬ b.1 = k := by omega
          have z3 : ¬ d.1 = k := by omega
          have ee : out [a, b, c, d] k = [a, b, d] := by simp [out, e2, z0, z1, z3]
          have ff : rank [a, b, c, d] k = 2 := by simp [rank, h0, h1, h2, e2]
          rw [ee, ff]
          rfl
        case neg =>
          exfalso
          simp [has, h0, h1, h2, e2] at h
      case pos =>
        by_cases h3 : d.1 < k
        case neg =>
          by_cases e3 : d.1 = k
          case pos =>
            have z0 : ¬ a.1 = k := by omega
            have z1 : ¬ b.1 = k := by omega
            have z2 : ¬ c.1 = k := by omega
            have ee : out [a, b, c, d] k = [a, b, c] := by simp [out, e3, z0, z1, z2]
            have ff : rank [a, b, c, d] k = 3 := by simp [rank, h0, h1, h2, h3, e3]
            rw [ee, ff]
            rfl
          case neg =>
            exfalso
            simp [has, h0, h1, h2, h3, e3] at h
        case pos =>
          exfalso
          simp [has, h0, h1, h2, h3] at h
theorem oute_5 (a b c d e : Int × Int) (hl : Lg [a, b, c, d, e]) (k : Int) (h : has [a, b, c, d, e] k = true) : behB (ofB (B [a, b, c, d, e]) 0 (rank [a, b, c, d, e] k)) (B [a, b, c, d, e]) (rank [a, b, c, d, e] k + 1) 5 = B (out [a, b, c, d, e] k) := by
  have hs := hl.srt
  simp only [List.pairwise_cons, List.mem_cons, List.not_mem_nil, forall_eq_or_imp, or_false, forall_eq] at hs
  by_cases h0 : a.1 < k
  case neg =>
    by_cases e0 : a.1 = k
    case pos =>
      have z1 : ¬ b.1 = k := by omega
      have z2 : ¬ c.1 = k := by omega
      have z3 : ¬ d.1 = k := by omega
      have z4 : ¬ e.1 = k := by omega
      have ee : out [a, b, c, d, e] k = [b, c, d, e] := by simp [out, e0, z1, z2, z3, z4]
      have ff : rank [a, b, c, d, e] k = 0 := by simp [rank, h0, e0]
      rw [ee, ff]
      rfl
    case neg =>
      exfalso
      simp [has, h0, e0] at h
  case pos =>
    by_cases h1 : b.1 < k
    case neg =>
      by_cases e1 : b.1 = k
      case pos =>
        have z0 : ¬ a.1 = k := by omega
        have z2 : ¬ c.1 = k := by omega
        have z3 : ¬ d.1 = k := by omega
        have z4 : ¬ e.1 = k := by omega
        have ee : out [a, b, c, d, e] k = [a, c, d, e] := by simp [out, e1, z0, z2, z3, z4]
        have ff : rank [a, b, c, d, e] k = 1 := by simp [rank, h0, h1, e1]
        rw [ee, ff]
        rfl
      case neg =>
        exfalso
        simp [has, h0, h1, e1] at h
    case pos =>
      by_cases h2 : c.1 < k
      case neg =>
        by_cases e2 : c.1 = k
        case pos =>
          have z0 : ¬ a.1 = k := by omega
          have z1 : ¬ b.1 = k := by omega
          have z3 : ¬ d.1 = k := by omega
          have z4 : ¬ e.1 = k := by omega
          have ee : out [a, b, c, d, e] k = [a, b, d, e] := by simp [out, e2, z0, z1, z3, z4]
          have ff : rank [a, b, c, d, e] k = 2 := by simp [rank, h0, h1, h2, e2]
          rw [ee, ff]
          rfl
        case neg =>
          exfalso
          simp [has, h0, h1, h2, e2] at h
      case pos =>
        by_cases h3 : d.1 < k
        case neg =>
          by_cases e3 : d.1 = k
          case pos =>
            have z0 : ¬ a.1 = k := by omega
            have z1 : ¬ b.1 = k := by omega
            have z2 : ¬ c.1 = k := by omega
            have z4 : ¬ e.1 = k := by omega
            have ee : out [a, b, c, d, e] k = [a, b, c, e] := by simp [out, e3, z0, z1, z2, z4]
            have ff : rank [a, b, c, d, e] k = 3 := by simp [rank, h0, h1, h2, h3, e3]
            rw [ee, ff]
            rfl
          case neg =>
            exfalso
            simp [has, h0, h1, h2, h3, e3] at h
        case pos =>
          by_cases h4 : e.1 < k
          case neg =>
            by_cases e4 : e.1 = k
            case pos =>
              have z0 : ¬ a.1 = k := by omega
              have z1 : ¬ b.1 = k := by omega
              have z2 : ¬ c.1 = k := by omega
              have z3 : ¬ d.1 = k := by omega
              have ee : out [a, b, c, d, e] k = [a, b, c, d] := by simp [out, e4, z0, z1, z2, z3]
              have ff : rank [a, b, c, d, e] k = 4 := by simp [rank, h0, h1, h2, h3, h4, e4]
              rw [ee, ff]
              rfl
            case neg =>
              exfalso
              simp [has, h0, h1, h2, h3, h4, e4] at h
          case pos =>
            exfalso
            simp [has, h0, h1, h2, h3, h4] at h
theorem oute_6 (a b c d e f : Int × Int) (hl : Lg [a, b, c, d, e, f]) (k : Int) (h : has [a, b, c, d, e, f] k = true) : behB (ofB (B [a, b, c, d, e, f]) 0 (rank [a, b, c, d, e, f] k)) (B [a, b, c, d, e, f]) (rank [a, b, c, d, e, f] k + 1) 6 = B (out [a, b, c, d, e, f] k) := by
  have hs := hl.srt
  simp only [List.pairwise_cons, List.mem_cons, List.not_mem_nil, forall_eq_or_imp, or_false, forall_eq] at hs
  by_cases h0 : a.1 < k
  case neg =>
    by_cases e0 : a.1 = k
    case pos =>
      have z1 : ¬ b.1 = k := by omega
      have z2 : ¬ c.1 = k := by omega
      have z3 : ¬ d.1 = k := by omega
      have z4 : ¬ e.1 = k := by omega
      have z5 : ¬ f.1 = k := by omega
      have ee : out [a, b, c, d, e, f] k = [b, c, d, e, f] := by simp [out, e0, z1, z2, z3, z4, z5]
      have ff : rank [a, b, c, d, e, f] k = 0 := by simp [rank, h0, e0]
      rw [ee, ff]
      rfl
    case neg =>
      exfalso
      simp [has, h0, e0] at h
  case pos =>
    by_cases h1 : b.1 < k
    case neg =>
      by_cases e1 : b.1 = k
      case pos =>
        have z0 : ¬ a.1 = k := by omega
        have z2 : ¬ c.1 = k := by omega
        have z3 : ¬ d.1 = k := by omega
        have z4 : ¬ e.1 = k := by omega
        have z5 : ¬ f.1 = k := by omega
        have ee : out [a, b, c, d, e, f] k = [a, c, d, e, f] := by simp [out, e1, z0, z2, z3, z4, z5]
        have ff : rank [a, b, c, d, e, f] k = 1 := by simp [rank, h0, h1, e1]
        rw [ee, ff]
        rfl
      case neg =>
        exfalso
        simp [has, h0, h1, e1] at h
    case pos =>
      by_cases h2 : c.1 < k
      case neg =>
        by_cases e2 : c.1 = k
        case pos =>
          have z0 : ¬ a.1 = k := by omega
          have z1 : ¬ b.1 = k := by omega
          have z3 : ¬ d.1 = k := by omega
          have z4 : ¬ e.1 = k := by omega
          have z5 : ¬ f.1 = k := by omega
          have ee : out [a, b, c, d, e, f] k = [a, b, d, e, f] := by simp [out, e2, z0, z1, z3, z4, z5]
          have ff : rank [a, b, c, d, e, f] k = 2 := by simp [rank, h0, h1, h2, e2]
          rw [ee, ff]
          rfl
        case neg =>
          exfalso
          simp [has, h0, h1, h2, e2] at h
      case pos =>
        by_cases h3 : d.1 < k
        case neg =>
          by_cases e3 : d.1 = k
          case pos =>
            have z0 : ¬ a.1 = k := by omega
            have z1 : ¬ b.1 = k := by omega
            have z2 : ¬ c.1 = k := by omega
            have z4 : ¬ e.1 = k := by omega
            have z5 : ¬ f.1 = k := by omega
            have ee : out [a, b, c, d, e, f] k = [a, b, c, e, f] := by simp [out, e3, z0, z1, z2, z4, z5]
            have ff : rank [a, b, c, d, e, f] k = 3 := by simp [rank, h0, h1, h2, h3, e3]
            rw [ee, ff]
            rfl
          case neg =>
            exfalso
            simp [has, h0, h1, h2, h3, e3] at h
        case pos =>
          by_cases h4 : e.1 < k
          case neg =>
            by_cases e4 : e.1 = k
            case pos =>
              have z0 : ¬ a.1 = k := by omega
              have z1 : ¬ b.1 = k := by omega
              have z2 : ¬ c.1 = k := by omega
              have z3 : ¬ d.1 = k := by omega
              have z5 : ¬ f.1 = k := by omega
              have ee : out [a, b, c, d, e, f] k = [a, b, c, d, f] := by simp [out, e4, z0, z1, z2, z3, z5]
              have ff : rank [a, b, c, d, e, f] k = 4 := by simp [rank, h0, h1, h2, h3, h4, e4]
              rw [ee, ff]
              rfl
            case neg =>
              exfalso
              simp [has, h0, h1, h2, h3, h4, e4] at h
          case pos =>
            by_cases h5 : f.1 < k
            case neg =>
              by_cases e5 : f.1 = k
              case pos =>
                have z0 : ¬ a.1 = k := by omega
                have z1 : ¬ b.1 = k := by omega
                have z2 : ¬ c.1 = k := by omega
                have z3 : ¬ d.1 = k := by omega
                have z4 : ¬ e.1 = k := by omega
                have ee : out [a, b, c, d, e, f] k = [a, b, c, d, e] := by simp [out, e5, z0, z1, z2, z3, z4]
                have ff : rank [a, b, c, d, e, f] k = 5 := by simp [rank, h0, h1, h2, h3, h4, h5, e5]
                rw [ee, ff]
                rfl
              case neg =>
                exfalso
                simp [has, h0, h1, h2, h3, h4, h5, e5] at h
            case pos =>
              exfalso
              simp [has, h0, h1, h2, h3, h4, h5] at h
theorem out_eq {l : List (Int × Int)} (hl : Lg l) (k : Int) (h : has l k = true) : behB (ofB (B l) 0 (rank l k)) (B l) (rank l k + 1) l.length = B (out l k) := by
  rcases len_cases (hl.len) with rfl | ⟨a, rfl⟩ | ⟨a, b, rfl⟩ | ⟨a, b, c, rfl⟩ | ⟨a, b, c, d, rfl⟩ | ⟨a, b, c, d, e, rfl⟩ | ⟨a, b, c, d, e, f, rfl⟩
  · simp [has] at h
  · exact oute_1 a hl k h
  · exact oute_2 a b hl k h
  · exact oute_3 a b c hl k h
  · exact oute_4 a b c d hl k h
  · exact oute_5 a b c d e hl k h
  · exact oute_6 a b c d e f hl k h
theorem Lg.take {l : List (Int × Int)} (h : Lg l) (n : Nat) : Lg (l.take n) := ⟨h.srt.sublist (List.take_sublist _ _), by have := h.len; simp; omega⟩
theorem Lg.drop {l : List (Int × Int)} (h : Lg l) (n : Nat) : Lg (l.drop n) := ⟨h.srt.sublist (List.drop_sublist _ _), by have := h.len; simp; omega⟩
theorem Lg.out {l : List (Int × Int)} (h : Lg l) (k : Int) : Lg (out l k) := ⟨h.srt.sublist List.filter_sublist, Nat.le_trans (List.length_filter_le _ _) h.len⟩
end Go.Proofs.Ytbppemcdphgknaa.T
