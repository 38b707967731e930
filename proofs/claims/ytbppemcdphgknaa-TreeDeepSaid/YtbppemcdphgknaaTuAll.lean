/- TuAll: merged. -/
import Derived.Test.YtbppemcdphgknaaTtAll
set_option linter.unusedVariables false
set_option linter.unusedSimpArgs false
/- Chapter 16: the reference: has, out, lay of long lists. -/
namespace Go.Proofs.Ytbppemcdphgknaa.T
open Go Go.Vm
set_option maxRecDepth 100000
set_option maxHeartbeats 40000000
set_option linter.unusedSimpArgs false
set_option linter.unusedVariables false
def encP (e : Int × Int) : List V := [u32V e.1, i64V e.2]
abbrev prV (l : PL) : V := .lst 2 (l.map encP)
theorem pure_P (l : PL) : PureEs (l.map encP) := fun e he v hv => by
  obtain ⟨x, _, rfl⟩ := List.mem_map.1 he
  simp [encP] at hv
  rcases hv with rfl | rfl
  · exact .int _ _
  · exact .int _ _
theorem getP {l : PL} {i : Nat} {x w : Int} (h : l[i]? = some (x, w)) : lget (l.map encP) (i : Int).toNat = some [u32V x, i64V w] := by
  rw [lget_eq, Int.toNat_natCast, List.getElem?_map, h]; rfl
theorem lenP (l : PL) : (l.map encP).length = l.length := by simp
theorem rank_idx : ∀ (l : PL) (k : Int), ∃ r : Nat, rank l k = r ∧ r ≤ l.length ∧ (∀ (i : Nat) (x w : Int), i < r → l[i]? = some (x, w) → x < k) ∧ ((r = l.length ∧ has l k = false) ∨ (∃ x w, l[r]? = some (x, w) ∧ ¬ x < k ∧ has l k = (x == k)))
  | [], k => ⟨0, rfl, Nat.le_refl _, fun i x w hi => absurd hi (by omega), .inl ⟨rfl, rfl⟩⟩
  | (y, v) :: t, k => by
    by_cases hk : y < k
    · obtain ⟨r, h1, h2, h3, h4⟩ := rank_idx t k
      refine ⟨r + 1, by simp only [rank]; rw [if_pos hk, h1]; rfl, by simpa using h2, fun i x w hi hx => ?_, ?_⟩
      · cases i with
        | zero => simp at hx; omega
        | succ i => exact h3 i x w (by omega) (by simpa using hx)
      · have q2 : has ((y, v) :: t) k = has t k := by simp only [has]; rw [if_pos hk]
        rw [q2]
        rcases h4 with ⟨h4, h5⟩ | ⟨x, w, h4, h5, h6⟩
        · exact .inl ⟨by simp [h4], h5⟩
        · exact .inr ⟨x, w, by simpa using h4, h5, h6⟩
    · refine ⟨0, by simp only [rank]; rw [if_neg hk]; rfl, by simp, fun i x w hi => absurd hi (by omega), .inr ⟨y, v, rfl, hk, ?_⟩⟩
      simp only [has]; rw [if_neg hk]
def stHas (l : PL) (k : Int) (i : Nat) : St DV := mkSt 36 [(0, prV l), (1, u32V k), (6, i64V i)] [] []
theorem has15 (l : PL) (k : Int) (hl : l.length ≤ 1000000) : PTriple Try.prog gv 32 [prV l, u32V k] (.tup [i64V (rank l k), .bool (has l k)]) := by
  have pP := pure_P l
  have lP := lenP l
  obtain ⟨r, hr0, hrl, hlt, hend⟩ := rank_idx l k
  rw [hr0]
  generalize hH : has l k = H at hend ⊢
  refine PTriple.of_body (C := cx) Try.func32 rfl (by kernel_rfl) (mixedOf _) fun E hE => ?_
  repeat' (conv => whnf); first
   | (refine bcase_of (fun hr => ?_) (fun hr => ?_) <;> (try simp only [decide_eq_true_eq, decide_eq_false_iff_not, beq_iff_eq, beq_eq_false_iff_ne, ne_eq, bne_iff_ne, Bool.not_eq_true, ge_iff_le, gt_iff_lt] at hr) <;> try (exfalso; first | omega | (simp at hr; omega) | (simp at hr; done)))
   | (apply And.intro; · first | exact Nat.le_of_ble_eq_true rfl | (show indep _ _ = true; kernel_rfl) | decide | exact ⟨by decide, by decide⟩ | exact ⟨Nat.le_of_ble_eq_true rfl, allOne_of rfl⟩ | exact allOne_of rfl)
   | (apply Exists.intro; apply And.intro; · first | exact rfl)
   | fail
  all_goals (conv => whnf)
  refine VLoop.norm [0, 1, 6] [] ?_
  repeat' (conv => whnf); first
   | (apply And.intro; · first | exact Nat.le_of_ble_eq_true rfl | (show indep _ _ = true; kernel_rfl) | decide | exact pP)
   | (apply Exists.intro; apply And.intro; · first | exact rfl)
   | fail
  refine VLoop.inv (fun i : Nat => stHas l k i) (fun i => i ≤ r) (fun i => r - i) 0 (Nat.zero_le _) rfl ?_
  intro i hi ih
  have hw : IntKind.i64.wrap ((i : Int) + 1) = ((i + 1 : Nat) : Int) := wrap64 (by omega) (by omega)
  refine VLoop.unroll hE (mixedOf _) ?_
  by_cases hgo : i < r
  case pos =>
    obtain ⟨⟨x, w⟩, hx⟩ : ∃ x, l[i]? = some x := ⟨_, List.getElem?_eq_getElem (by omega)⟩
    have gi := getP hx
    have hk := hlt i x w hgo hx
    repeat' (conv => whnf); first
     | (refine bcase_of (fun hr => ?_) (fun hr => ?_) <;> (try simp only [decide_eq_true_eq, decide_eq_false_iff_not, beq_iff_eq, beq_eq_false_iff_ne, ne_eq, bne_iff_ne, Bool.not_eq_true, ge_iff_le, gt_iff_lt] at hr) <;> try (exfalso; first | omega | (simp at hr; omega) | (simp at hr; done)))
     | (apply And.intro; · first | exact Nat.le_of_ble_eq_true rfl | (show indep _ _ = true; kernel_rfl) | decide | exact ⟨by decide, by decide⟩ | exact ⟨Nat.le_of_ble_eq_true rfl, allOne_of rfl⟩ | exact allOne_of rfl | exact ⟨by omega, by omega⟩)
     | (apply Exists.intro; apply And.intro; · first | exact rfl | exact gi)
     | rw [hw]
     | fail
    all_goals (conv => whnf)
    refine VLoop.norm [0, 1, 6] [] ?_
    repeat' (conv => whnf); first
     | (apply And.intro; · first | exact Nat.le_of_ble_eq_true rfl | (show indep _ _ = true; kernel_rfl) | decide | exact pP)
     | (apply Exists.intro; apply And.intro; · first | exact rfl)
     | fail
    try rw [hw]
    exact ih (i + 1) hgo (by omega)
  case neg =>
    obtain rfl : i = r := by omega
    rcases hend with ⟨he, hf⟩ | ⟨x, w, hx, hk, hf⟩
    · subst hf
      repeat' (conv => whnf); first
       | (refine bcase_of (fun hr => ?_) (fun hr => ?_) <;> (try simp only [decide_eq_true_eq, decide_eq_false_iff_not, beq_iff_eq, beq_eq_false_iff_ne, ne_eq, bne_iff_ne, Bool.not_eq_true, ge_iff_le, gt_iff_lt] at hr) <;> try (exfalso; first | omega | (simp at hr; omega) | (simp at hr; done)))
       | (apply And.intro; · first | exact Nat.le_of_ble_eq_true rfl | (show indep _ _ = true; kernel_rfl) | decide | exact ⟨by decide, by decide⟩ | exact ⟨Nat.le_of_ble_eq_true rfl, allOne_of rfl⟩ | exact allOne_of rfl | exact ⟨by omega, by omega⟩)
       | (apply Exists.intro; apply And.intro; · first | exact rfl | exact gi)
       | rw [hw]
       | fail
      all_goals (conv => whnf)
      all_goals rfl
    · have gi := getP hx
      have hil := (List.getElem?_eq_some_iff.1 hx).1
      by_cases hxk : x = k
      · obtain rfl : H = true := by rw [hf]; simp [hxk]
        repeat' (conv => whnf); first
         | (refine bcase_of (fun hr => ?_) (fun hr => ?_) <;> (try simp only [decide_eq_true_eq, decide_eq_false_iff_not, beq_iff_eq, beq_eq_false_iff_ne, ne_eq, bne_iff_ne, Bool.not_eq_true, ge_iff_le, gt_iff_lt] at hr) <;> try (exfalso; first | omega | (simp at hr; omega) | (simp at hr; done)))
         | (apply And.intro; · first | exact Nat.le_of_ble_eq_true rfl | (show indep _ _ = true; kernel_rfl) | decide | exact ⟨by decide, by decide⟩ | exact ⟨Nat.le_of_ble_eq_true rfl, allOne_of rfl⟩ | exact allOne_of rfl | exact ⟨by omega, by omega⟩)
         | (apply Exists.intro; apply And.intro; · first | exact rfl | exact gi)
         | rw [hw]
         | fail
        all_goals (conv => whnf)
        all_goals rfl
      · obtain rfl : H = false := by rw [hf]; simp [hxk]
        repeat' (conv => whnf); first
         | (refine bcase_of (fun hr => ?_) (fun hr => ?_) <;> (try simp only [decide_eq_true_eq, decide_eq_false_iff_not, beq_iff_eq, beq_eq_false_iff_ne, ne_eq, bne_iff_ne, Bool.not_eq_true, ge_iff_le, gt_iff_lt] at hr) <;> try (exfalso; first | omega | (simp at hr; omega) | (simp at hr; done)))
         | (apply And.intro; · first | exact Nat.le_of_ble_eq_true rfl | (show indep _ _ = true; kernel_rfl) | decide | exact ⟨by decide, by decide⟩ | exact ⟨Nat.le_of_ble_eq_true rfl, allOne_of rfl⟩ | exact allOne_of rfl | exact ⟨by omega, by omega⟩)
         | (apply Exists.intro; apply And.intro; · first | exact rfl | exact gi)
         | rw [hw]
         | fail
        all_goals (conv => whnf)
        all_goals rfl
end Go.Proofs.Ytbppemcdphgknaa.T
/- Chapter 16: the reference: out of long lists. -/
namespace Go.Proofs.Ytbppemcdphgknaa.T
open Go Go.Vm
set_option maxRecDepth 100000
set_option maxHeartbeats 40000000
set_option linter.unusedSimpArgs false
set_option linter.unusedVariables false
def encPs (o : PL) : List (List V) := o.map encP
theorem pure_Ps (o : PL) : PureEs (encPs o) := pure_P o
theorem lenPs (o : PL) : (encPs o).length = o.length := by simp [encPs]
theorem raP (o : PL) (xs : List (List V)) (h : o.length + xs.length ≤ 2000000) : 0 + o.length ≤ (encPs o).length ∧ (false = true → 0 + o.length = (encPs o).length) ∧ (o.length + xs.length) * 16 ≤ roomBound ∧ o.length + xs.length ≤ roomBound := ⟨by simp [lenPs], (by intro h; cases h), by unfold roomBound; omega, by unfold roomBound; omega⟩
theorem takePs (o : PL) : ((encPs o).drop 0).take o.length = encPs o := by rw [List.drop_zero, List.take_of_length_le (by rw [lenPs]; exact Nat.le_refl _)]
theorem addPs (o : PL) (x w : Int) : ((encPs o).drop 0).take o.length ++ ([[u32V x, i64V w]].drop 0).take 1 = encPs (o ++ [(x, w)]) := by rw [takePs]; simp [encPs, encP]
def stOut (l : PL) (k : Int) (o : PL) (i : Nat) : St DV := mkSt 28 [(0, prV l), (1, u32V k), (5, .rsl (27, 1) 2 0 o.length), (6, i64V i)] [(26, .row 2 (encPs o) false)] []
theorem take_get {α : Type} {l : List α} {i : Nat} {x : α} (h : l[i]? = some x) : l.take (i + 1) = l.take i ++ [x] := by
  rw [List.take_add_one, h]; rfl
theorem out15 (l : PL) (k : Int) (hl : l.length ≤ 1000000) : PTriple Try.prog gv 34 [prV l, u32V k] (prV (out l k)) := by
  have pP := pure_P l
  have lP := lenP l
  refine PTriple.of_body (C := cx) Try.func34 rfl (by kernel_rfl) (mixedOf _) fun E hE => ?_
  repeat' (conv => whnf); first
   | (refine bcase_of (fun hr => ?_) (fun hr => ?_) <;> (try simp only [decide_eq_true_eq, decide_eq_false_iff_not, beq_iff_eq, beq_eq_false_iff_ne, ne_eq, bne_iff_ne, Bool.not_eq_true, ge_iff_le, gt_iff_lt] at hr) <;> try (exfalso; first | omega | (simp at hr; omega) | (simp at hr; done)))
   | (apply And.intro; · first | exact Nat.le_of_ble_eq_true rfl | (show indep _ _ = true; kernel_rfl) | decide | exact ⟨by decide, by decide⟩ | exact ⟨Nat.le_of_ble_eq_true rfl, allOne_of rfl⟩ | exact allOne_of rfl)
   | (apply Exists.intro; apply And.intro; · first | exact rfl)
   | fail
  all_goals (conv => whnf)
  refine VLoop.adopt 5 26 2 ?_
  conv => whnf
  refine VLoop.norm [0, 1, 5, 6] [26] ?_
  repeat' (conv => whnf); first
   | (apply And.intro; · first | exact Nat.le_of_ble_eq_true rfl | (show indep _ _ = true; kernel_rfl) | decide | exact pP | exact (fun e he => nomatch he))
   | (apply Exists.intro; apply And.intro; · first | exact rfl)
   | fail
  refine VLoop.inv (fun z : PL × Nat => stOut l k z.1 z.2) (fun z => z.2 ≤ l.length ∧ z.1 = out (l.take z.2) k) (fun z => l.length - z.2) ⟨[], 0⟩ ⟨Nat.zero_le _, by simp [out]⟩ rfl ?_
  rintro ⟨o, i⟩ ⟨hi, ho⟩ ih
  simp only at hi ho ih
  show VLoop cx E _ (stOut l k o i) _
  have hw : IntKind.i64.wrap ((i : Int) + 1) = ((i + 1 : Nat) : Int) := wrap64 (by omega) (by omega)
  have hol : o.length ≤ l.length := by rw [ho]; exact Nat.le_trans (List.length_filter_le _ _) (by simp; omega)
  refine VLoop.unroll hE (mixedOf _) ?_
  by_cases hgo : i < l.length
  case pos =>
    obtain ⟨⟨x, w⟩, hx⟩ : ∃ x, l[i]? = some x := ⟨_, List.getElem?_eq_getElem hgo⟩
    have gi := getP hx
    have ht := take_get hx
    by_cases hk : x = k
    case pos =>
      have ho2 : o = out (l.take (i + 1)) k := by rw [ht, out_app, ← ho]; simp [out, hk]
      repeat' (conv => whnf); first
       | (refine bcase_of (fun hr => ?_) (fun hr => ?_) <;> (try simp only [decide_eq_true_eq, decide_eq_false_iff_not, beq_iff_eq, beq_eq_false_iff_ne, ne_eq, bne_iff_ne, Bool.not_eq_true, ge_iff_le, gt_iff_lt] at hr) <;> try (exfalso; first | omega | (simp at hr; omega) | (simp at hr; done)))
       | (apply And.intro; · first | exact Nat.le_of_ble_eq_true rfl | (show indep _ _ = true; kernel_rfl) | decide | exact ⟨by decide, by decide⟩ | exact ⟨Nat.le_of_ble_eq_true rfl, allOne_of rfl⟩ | exact allOne_of rfl | exact ⟨by omega, by omega⟩ | exact raP _ _ (by simp; omega) | (rw [lenPs]; omega) | (rw [takePs]; exact pure_Ps _))
       | (apply Exists.intro; apply And.intro; · first | exact rfl | exact gi)
       | rw [hw]
       | fail
      all_goals (conv => whnf)
      refine VLoop.norm [0, 1, 5, 6] [26] ?_
      repeat' (conv => whnf); first
       | (apply And.intro; · first | exact Nat.le_of_ble_eq_true rfl | (show indep _ _ = true; kernel_rfl) | decide | exact pP | exact pure_Ps _)
       | (apply Exists.intro; apply And.intro; · first | exact rfl)
       | fail
      try rw [hw]
      exact ih ⟨o, i + 1⟩ ⟨hgo, ho2⟩ (by show l.length - (i + 1) < l.length - i; omega)
    case neg =>
      have ho2 : o ++ [(x, w)] = out (l.take (i + 1)) k := by rw [ht, out_app, ← ho]; simp [out, hk]
      repeat' (conv => whnf); first
       | (refine bcase_of (fun hr => ?_) (fun hr => ?_) <;> (try simp only [decide_eq_true_eq, decide_eq_false_iff_not, beq_iff_eq, beq_eq_false_iff_ne, ne_eq, bne_iff_ne, Bool.not_eq_true, ge_iff_le, gt_iff_lt] at hr) <;> try (exfalso; first | omega | (simp at hr; omega) | (simp at hr; done)))
       | (apply And.intro; · first | exact Nat.le_of_ble_eq_true rfl | (show indep _ _ = true; kernel_rfl) | decide | exact ⟨by decide, by decide⟩ | exact ⟨Nat.le_of_ble_eq_true rfl, allOne_of rfl⟩ | exact allOne_of rfl | exact ⟨by omega, by omega⟩ | exact raP _ _ (by simp; omega) | (rw [lenPs]; omega) | (rw [takePs]; exact pure_Ps _))
       | (apply Exists.intro; apply And.intro; · first | exact rfl | exact gi)
       | rw [hw]
       | fail
      all_goals (conv => whnf)
      refine VLoop.norm [0, 1, 5, 6] [26] ?_
      repeat' (conv => whnf); first
       | (apply And.intro; · first | exact Nat.le_of_ble_eq_true rfl | (show indep _ _ = true; kernel_rfl) | decide | exact pP | (rw [addPs]; exact pure_Ps _))
       | (apply Exists.intro; apply And.intro; · first | exact rfl)
       | fail
      try rw [hw]
      rw [addPs, show o.length + (([[u32V x, i64V w]].drop 0).take 1).length = (o ++ [(x, w)]).length by simp]
      exact ih ⟨o ++ [(x, w)], i + 1⟩ ⟨hgo, ho2⟩ (by show l.length - (i + 1) < l.length - i; omega)
  case neg =>
    have hoe : o = out l k := by rw [ho, List.take_of_length_le (by omega)]
    repeat' (conv => whnf); first
     | (refine bcase_of (fun hr => ?_) (fun hr => ?_) <;> (try simp only [decide_eq_true_eq, decide_eq_false_iff_not, beq_iff_eq, beq_eq_false_iff_ne, ne_eq, bne_iff_ne, Bool.not_eq_true, ge_iff_le, gt_iff_lt] at hr) <;> try (exfalso; first | omega | (simp at hr; omega) | (simp at hr; done)))
     | (apply And.intro; · first | exact Nat.le_of_ble_eq_true rfl | (show indep _ _ = true; kernel_rfl) | decide | exact ⟨by decide, by decide⟩ | exact ⟨Nat.le_of_ble_eq_true rfl, allOne_of rfl⟩ | exact allOne_of rfl | exact ⟨by omega, by omega⟩ | exact raP _ _ (by simp; omega) | (rw [lenPs]; omega) | (rw [takePs]; exact pure_Ps _))
     | (apply Exists.intro; apply And.intro; · first | exact rfl | exact gi)
     | rw [hw]
     | fail
    all_goals (conv => whnf)
    all_goals (rw [takePs, hoe]; rfl)
end Go.Proofs.Ytbppemcdphgknaa.T
/- Chapter 16: the reference: lay of long lists. -/
namespace Go.Proofs.Ytbppemcdphgknaa.T
open Go Go.Vm
set_option maxRecDepth 100000
set_option maxHeartbeats 40000000
set_option linter.unusedSimpArgs false
set_option linter.unusedVariables false
theorem lay_idx : ∀ (l : PL) (k v : Int) (r : Nat), rank l k = r → ((r = l.length → lay l k v = l.take r ++ [(k, v)] ++ l.drop r) ∧ (∀ x w, l[r]? = some (x, w) → (x = k → lay l k v = l.take r ++ [(k, v)] ++ l.drop (r + 1)) ∧ (x ≠ k → lay l k v = l.take r ++ [(k, v)] ++ l.drop r)))
  | [], k, v, r, h => by
    have : r = 0 := by simp [rank] at h; omega
    subst this
    exact ⟨fun _ => rfl, fun x w hx => by simp at hx⟩
  | (y, u) :: t, k, v, r, h => by
    by_cases hk : y < k
    · have hr : rank ((y, u) :: t) k = rank t k + 1 := by simp only [rank]; rw [if_pos hk]
      have h0 := rank_le t k
      obtain ⟨s, rfl⟩ : ∃ s, r = s + 1 := ⟨r - 1, by omega⟩
      obtain ⟨i1, i2⟩ := lay_idx t k v s (by omega)
      have hl : lay ((y, u) :: t) k v = (y, u) :: lay t k v := by simp only [lay]; rw [if_pos hk]
      rw [hl]
      refine ⟨fun he => by rw [i1 (by simpa using he)]; rfl, fun x w hx => ?_⟩
      obtain ⟨j1, j2⟩ := i2 x w (by simpa using hx)
      exact ⟨fun e => by rw [j1 e]; rfl, fun e => by rw [j2 e]; rfl⟩
    · have hr : rank ((y, u) :: t) k = 0 := by simp only [rank]; rw [if_neg hk]
      have : r = 0 := by omega
      subst this
      refine ⟨fun he => by simp at he, fun x w hx => ?_⟩
      simp only [List.getElem?_cons_zero, Option.some.injEq, Prod.mk.injEq] at hx
      obtain ⟨rfl, rfl⟩ := hx
      refine ⟨fun e => ?_, fun e => ?_⟩
      · simp only [lay]; rw [if_neg hk, if_pos e]; rfl
      · simp only [lay]; rw [if_neg hk, if_neg e]; rfl
theorem allP (o : PL) : allOne (encPs o) 2 := fun e he => by
  obtain ⟨x, _, rfl⟩ := List.mem_map.1 he
  exact ⟨rfl, rfl⟩
def stLay (l : PL) (k v : Int) (i : Nat) : St DV := mkSt 57 [(0, prV l), (1, u32V k), (2, i64V v), (7, .rsl (29, 1) 2 0 i), (8, i64V i)] [(28, .row 2 (encPs (l.take i)) false)] []
theorem endPs (l : PL) (j : Nat) : (((l.map encP).drop j).take (l.length - j)) = encPs (l.drop j) := by
  rw [List.take_of_length_le (by simp)]; simp [encPs]
theorem addAll (o q : PL) : ((encPs o).drop 0).take o.length ++ encPs q = encPs (o ++ q) := by rw [takePs]; simp [encPs]
theorem lay15 (l : PL) (k v : Int) (hl : l.length ≤ 1000000) : PTriple Try.prog gv 31 [prV l, u32V k, i64V v] (prV (lay l k v)) := by
  have pP := pure_P l
  have lP := lenP l
  obtain ⟨r, hr0, hrl, hlt, hend⟩ := rank_idx l k
  obtain ⟨hlay1, hlay2⟩ := lay_idx l k v r hr0
  refine PTriple.of_body (C := cx) Try.func31 rfl (by kernel_rfl) (mixedOf _) fun E hE => ?_
  repeat' (conv => whnf); first
   | (refine bcase_of (fun hr => ?_) (fun hr => ?_) <;> (try simp only [decide_eq_true_eq, decide_eq_false_iff_not, beq_iff_eq, beq_eq_false_iff_ne, ne_eq, bne_iff_ne, Bool.not_eq_true, ge_iff_le, gt_iff_lt] at hr) <;> try (exfalso; first | omega | (simp at hr; omega) | (simp at hr; done)))
   | (apply And.intro; · first | exact Nat.le_of_ble_eq_true rfl | (show indep _ _ = true; kernel_rfl) | decide | exact ⟨by decide, by decide⟩ | exact ⟨Nat.le_of_ble_eq_true rfl, allOne_of rfl⟩ | exact allOne_of rfl)
   | (apply Exists.intro; apply And.intro; · first | exact rfl)
   | fail
  all_goals (conv => whnf)
  refine VLoop.adopt 7 28 2 ?_
  conv => whnf
  refine VLoop.norm [0, 1, 2, 7, 8] [28] ?_
  repeat' (conv => whnf); first
   | (apply And.intro; · first | exact Nat.le_of_ble_eq_true rfl | (show indep _ _ = true; kernel_rfl) | decide | exact pP | exact (fun e he => nomatch he))
   | (apply Exists.intro; apply And.intro; · first | exact rfl)
   | fail
  refine VLoop.inv (fun i : Nat => stLay l k v i) (fun i => i ≤ r) (fun i => r - i) 0 (Nat.zero_le _) rfl ?_
  intro i hi ih
  have hw : IntKind.i64.wrap ((i : Int) + 1) = ((i + 1 : Nat) : Int) := wrap64 (by omega) (by omega)
  have hti : (l.take i).length = i := by rw [List.length_take]; omega
  have hr1 : ∀ {x w : Int}, 0 + i ≤ (encPs (l.take i)).length ∧ (false = true → 0 + i = (encPs (l.take i)).length) ∧ (i + (([[u32V x, i64V w]].drop 0).take 1).length) * 16 ≤ roomBound ∧ i + (([[u32V x, i64V w]].drop 0).take 1).length ≤ roomBound := ⟨by rw [lenPs, hti]; omega, (by intro h; cases h), by unfold roomBound; simp; omega, by unfold roomBound; simp; omega⟩
  have ha1 : ∀ {x w : Int}, ((encPs (l.take i)).drop 0).take i ++ ([[u32V x, i64V w]].drop 0).take 1 = encPs (l.take i ++ [(x, w)]) := by
    intro x w
    have := addPs (l.take i) x w
    rw [hti] at this
    exact this
  refine VLoop.unroll hE (mixedOf _) ?_
  by_cases hgo : i < r
  case pos =>
    obtain ⟨⟨x, w⟩, hx⟩ : ∃ x, l[i]? = some x := ⟨_, List.getElem?_eq_getElem (by omega)⟩
    have gi := getP hx
    have ht := take_get hx
    have hk := hlt i x w hgo hx
    repeat' (conv => whnf); first
     | (refine bcase_of (fun hr => ?_) (fun hr => ?_) <;> (try simp only [decide_eq_true_eq, decide_eq_false_iff_not, beq_iff_eq, beq_eq_false_iff_ne, ne_eq, bne_iff_ne, Bool.not_eq_true, ge_iff_le, gt_iff_lt] at hr) <;> try (exfalso; first | omega | (simp at hr; omega) | (simp at hr; done)))
     | (apply And.intro; · first | exact Nat.le_of_ble_eq_true rfl | (show indep _ _ = true; kernel_rfl) | decide | exact ⟨by decide, by decide⟩ | exact ⟨Nat.le_of_ble_eq_true rfl, allOne_of rfl⟩ | exact allOne_of rfl | exact ⟨by omega, by omega⟩ | exact hr1 | exact ⟨by rw [lP]; omega, by rw [lP]; omega⟩)
     | (apply Exists.intro; apply And.intro; · first | exact rfl | exact gi)
     | rw [hw]
     | fail
    all_goals (conv => whnf)
    refine VLoop.norm [0, 1, 2, 7, 8] [28] ?_
    repeat' (conv => whnf); first
     | (apply And.intro; · first | exact Nat.le_of_ble_eq_true rfl | (show indep _ _ = true; kernel_rfl) | decide | exact pP | (rw [ha1]; exact pure_Ps _))
     | (apply Exists.intro; apply And.intro; · first | exact rfl)
     | fail
    try rw [hw]
    rw [ha1, ← ht]
    exact ih (i + 1) hgo (by omega)
  case neg =>
    obtain rfl : i = r := by omega
    have key : ∀ j, j ≤ l.length → lay l k v = l.take i ++ [(k, v)] ++ l.drop j →
        (0 + (i + (([[u32V k, i64V v]].drop 0).take 1).length) ≤ (((encPs (l.take i)).drop 0).take i ++ ([[u32V k, i64V v]].drop 0).take 1).length ∧ (false = true → 0 + (i + (([[u32V k, i64V v]].drop 0).take 1).length) = (((encPs (l.take i)).drop 0).take i ++ ([[u32V k, i64V v]].drop 0).take 1).length) ∧ ((i + (([[u32V k, i64V v]].drop 0).take 1).length) + (((l.map encP).drop j).take ((l.map encP).length - j)).length) * 16 ≤ roomBound ∧ i + (([[u32V k, i64V v]].drop 0).take 1).length + (((l.map encP).drop j).take ((l.map encP).length - j)).length ≤ roomBound) ∧
        0 + (i + (([[u32V k, i64V v]].drop 0).take 1).length + (((l.map encP).drop j).take ((l.map encP).length - j)).length) ≤ (((((encPs (l.take i)).drop 0).take i ++ ([[u32V k, i64V v]].drop 0).take 1).drop 0).take (i + (([[u32V k, i64V v]].drop 0).take 1).length) ++ ((l.map encP).drop j).take ((l.map encP).length - j)).length ∧ PureEs (((((((encPs (l.take i)).drop 0).take i ++ ([[u32V k, i64V v]].drop 0).take 1).drop 0).take (i + (([[u32V k, i64V v]].drop 0).take 1).length) ++ ((l.map encP).drop j).take ((l.map encP).length - j)).drop 0).take (i + (([[u32V k, i64V v]].drop 0).take 1).length + (((l.map encP).drop j).take ((l.map encP).length - j)).length)) ∧ V.lst 2 (((((((encPs (l.take i)).drop 0).take i ++ ([[u32V k, i64V v]].drop 0).take 1).drop 0).take (i + (([[u32V k, i64V v]].drop 0).take 1).length) ++ ((l.map encP).drop j).take ((l.map encP).length - j)).drop 0).take (i + (([[u32V k, i64V v]].drop 0).take 1).length + (((l.map encP).drop j).take ((l.map encP).length - j)).length)) = prV (lay l k v) := fun j hj hL => by
      have hone : (([[u32V k, i64V v]].drop 0).take 1).length = 1 := rfl
      have hA : (((((encPs (l.take i)).drop 0).take i ++ ([[u32V k, i64V v]].drop 0).take 1).drop 0).take (i + (([[u32V k, i64V v]].drop 0).take 1).length) ++ ((l.map encP).drop j).take ((l.map encP).length - j)) = encPs (lay l k v) := by
        rw [lP, ha1, endPs, hone, hL]
        have := addAll (l.take i ++ [(k, v)]) (l.drop j)
        rw [List.length_append, hti] at this
        exact this
      have hlq : (((l.map encP).drop j).take ((l.map encP).length - j)).length = l.length - j := by rw [lP, endPs, lenPs, List.length_drop]
      have hN : (i + (([[u32V k, i64V v]].drop 0).take 1).length + (((l.map encP).drop j).take ((l.map encP).length - j)).length) = (lay l k v).length := by rw [hone, hlq, hL]; simp; omega
      refine ⟨⟨?_, (by intro h; cases h), ?_, ?_⟩, ?_, ?_, ?_⟩
      · rw [ha1, hone, lenPs, List.length_append, hti]; simp
      · rw [hone, hlq]; unfold roomBound; omega
      · rw [hone, hlq]; unfold roomBound; omega
      · rw [hA, hN, lenPs]; omega
      · rw [hA, hN, takePs]; exact pure_Ps _
      · rw [hA, hN, takePs]; rfl
    have hall : ∀ j, allOne (((l.map encP).drop j).take ((l.map encP).length - j)) 2 := fun j => by rw [lP, endPs]; exact allP _
    rcases hend with ⟨he, hf⟩ | ⟨x, w, hx, hk, hf⟩
    · obtain ⟨k1, k2, k3, k4⟩ := key i hrl (hlay1 he)
      repeat' (conv => whnf); first
       | (refine bcase_of (fun hr => ?_) (fun hr => ?_) <;> (try simp only [decide_eq_true_eq, decide_eq_false_iff_not, beq_iff_eq, beq_eq_false_iff_ne, ne_eq, bne_iff_ne, Bool.not_eq_true, ge_iff_le, gt_iff_lt] at hr) <;> try (exfalso; first | omega | (simp at hr; omega) | (simp at hr; done)))
       | (apply And.intro; · first | exact Nat.le_of_ble_eq_true rfl | (show indep _ _ = true; kernel_rfl) | decide | exact ⟨by decide, by decide⟩ | exact ⟨Nat.le_of_ble_eq_true rfl, allOne_of rfl⟩ | exact allOne_of rfl | exact ⟨by omega, by omega⟩ | exact hr1 | exact ⟨by rw [lP]; omega, by rw [lP]; omega⟩ | exact hall _ | exact k1 | exact k2 | exact k3)
       | (apply Exists.intro; apply And.intro; · first | exact rfl | exact gi)
       | rw [hw]
       | fail
      all_goals (conv => whnf)
      all_goals exact k4
    · have gi := getP hx
      have hil := (List.getElem?_eq_some_iff.1 hx).1
      obtain ⟨e1, e2⟩ := hlay2 x w hx
      by_cases hxk : x = k
      · obtain ⟨k1, k2, k3, k4⟩ := key (i + 1) hil (e1 hxk)
        repeat' (conv => whnf); first
         | (refine bcase_of (fun hr => ?_) (fun hr => ?_) <;> (try simp only [decide_eq_true_eq, decide_eq_false_iff_not, beq_iff_eq, beq_eq_false_iff_ne, ne_eq, bne_iff_ne, Bool.not_eq_true, ge_iff_le, gt_iff_lt] at hr) <;> try (exfalso; first | omega | (simp at hr; omega) | (simp at hr; done)))
         | (apply And.intro; · first | exact Nat.le_of_ble_eq_true rfl | (show indep _ _ = true; kernel_rfl) | decide | exact ⟨by decide, by decide⟩ | exact ⟨Nat.le_of_ble_eq_true rfl, allOne_of rfl⟩ | exact allOne_of rfl | exact ⟨by omega, by omega⟩ | exact hr1 | exact ⟨by rw [lP]; omega, by rw [lP]; omega⟩ | exact hall _ | exact k1 | exact k2 | exact k3)
         | (apply Exists.intro; apply And.intro; · first | exact rfl | exact gi)
         | rw [hw]
         | fail
        all_goals (conv => whnf)
        all_goals exact k4
      · obtain ⟨k1, k2, k3, k4⟩ := key i hrl (e2 hxk)
        repeat' (conv => whnf); first
         | (refine bcase_of (fun hr => ?_) (fun hr => ?_) <;> (try simp only [decide_eq_true_eq, decide_eq_false_iff_not, beq_iff_eq, beq_eq_false_iff_ne, ne_eq, bne_iff_ne, Bool.not_eq_true, ge_iff_le, gt_iff_lt] at hr) <;> try (exfalso; first | omega | (simp at hr; omega) | (simp at hr; done)))
         | (apply And.intro; · first | exact Nat.le_of_ble_eq_true rfl | (show indep _ _ = true; kernel_rfl) | decide | exact ⟨by decide, by decide⟩ | exact ⟨Nat.le_of_ble_eq_true rfl, allOne_of rfl⟩ | exact allOne_of rfl | exact ⟨by omega, by omega⟩ | exact hr1 | exact ⟨by rw [lP]; omega, by rw [lP]; omega⟩ | exact hall _ | exact k1 | exact k2 | exact k3)
         | (apply Exists.intro; apply And.intro; · first | exact rfl | exact gi)
         | rw [hw]
         | fail
        all_goals (conv => whnf)
        all_goals exact k4
end Go.Proofs.Ytbppemcdphgknaa.T
/- Chapter 16: the reference: next, sum. -/
namespace Go.Proofs.Ytbppemcdphgknaa.T
open Go Go.Vm
set_option maxRecDepth 100000
set_option maxHeartbeats 40000000
set_option linter.unusedSimpArgs false
set_option linter.unusedVariables false
theorem nx_rank : ∀ (l : PL) (k : Int) (r : Nat), rank l k = r → nx l k = l[r]?
  | [], k, r, h => by
    have : r = 0 := by simp [rank] at h; omega
    subst this; rfl
  | (y, u) :: t, k, r, h => by
    by_cases hk : y < k
    · have hr : rank ((y, u) :: t) k = rank t k + 1 := by simp only [rank]; rw [if_pos hk]
      have h0 := rank_le t k
      obtain ⟨s, rfl⟩ : ∃ s, r = s + 1 := ⟨r - 1, by omega⟩
      have := nx_rank t k s (by omega)
      unfold nx at this ⊢
      rw [List.find?_cons_of_neg (by simp; omega), this]; rfl
    · have hr : rank ((y, u) :: t) k = 0 := by simp only [rank]; rw [if_neg hk]
      have : r = 0 := by omega
      subst this
      unfold nx
      rw [List.find?_cons_of_pos (by simp; omega)]; rfl
def nxP : Option (Int × Int) → V
  | none => .tup [.agg [u32V 0, i64V 0], .bool false]
  | some e => .tup [.agg [u32V e.1, i64V e.2], .bool true]
def stN16 (l : PL) (k : Int) (i : Nat) : St DV := mkSt 25 [(0, prV l), (1, u32V k), (4, .ref (5, 1) 0), (6, i64V i)] [(4, .box [u32V 0, i64V 0])] []
theorem next16 (l : PL) (k : Int) (hl : l.length ≤ 1000000) : PTriple Try.prog gv 49 [prV l, u32V k] (nxP (nx l k)) := by
  have pP := pure_P l
  have lP := lenP l
  obtain ⟨r, hr0, hrl, hlt, hend⟩ := rank_idx l k
  rw [nx_rank l k r hr0]
  clear hr0
  refine PTriple.of_body (C := cx) Try.func49 rfl (by kernel_rfl) (mixedOf _) fun E hE => ?_
  repeat' (conv => whnf); first
   | (refine bcase_of (fun hr => ?_) (fun hr => ?_) <;> (try simp only [decide_eq_true_eq, decide_eq_false_iff_not, beq_iff_eq, beq_eq_false_iff_ne, ne_eq, bne_iff_ne, Bool.not_eq_true, ge_iff_le, gt_iff_lt] at hr) <;> try (exfalso; first | omega | (simp at hr; omega) | (simp at hr; done)))
   | (apply And.intro; · first | exact Nat.le_of_ble_eq_true rfl | (show indep _ _ = true; kernel_rfl) | decide | exact ⟨by decide, by decide⟩ | exact ⟨Nat.le_of_ble_eq_true rfl, allOne_of rfl⟩ | exact allOne_of rfl)
   | (apply Exists.intro; apply And.intro; · first | exact rfl)
   | fail
  all_goals (conv => whnf)
  refine VLoop.norm [0, 1, 4, 6] [4] ?_
  repeat' (conv => whnf); first
   | (apply And.intro; · first | exact Nat.le_of_ble_eq_true rfl | (show indep _ _ = true; kernel_rfl) | decide | exact pP)
   | (apply Exists.intro; apply And.intro; · first | exact rfl)
   | fail
  refine VLoop.inv (fun i : Nat => stN16 l k i) (fun i => i ≤ r) (fun i => r - i) 0 (Nat.zero_le _) rfl ?_
  intro i hi ih
  have hw : IntKind.i64.wrap ((i : Int) + 1) = ((i + 1 : Nat) : Int) := wrap64 (by omega) (by omega)
  refine VLoop.unroll hE (mixedOf _) ?_
  by_cases hgo : i < r
  case pos =>
    obtain ⟨⟨x, w⟩, hx⟩ : ∃ x, l[i]? = some x := ⟨_, List.getElem?_eq_getElem (by omega)⟩
    have gi := getP hx
    have hk := hlt i x w hgo hx
    repeat' (conv => whnf); first
     | (refine bcase_of (fun hr => ?_) (fun hr => ?_) <;> (try simp only [decide_eq_true_eq, decide_eq_false_iff_not, beq_iff_eq, beq_eq_false_iff_ne, ne_eq, bne_iff_ne, Bool.not_eq_true, ge_iff_le, gt_iff_lt] at hr) <;> try (exfalso; first | omega | (simp at hr; omega) | (simp at hr; done)))
     | (apply And.intro; · first | exact Nat.le_of_ble_eq_true rfl | (show indep _ _ = true; kernel_rfl) | decide | exact ⟨by decide, by decide⟩ | exact ⟨Nat.le_of_ble_eq_true rfl, allOne_of rfl⟩ | exact allOne_of rfl | exact ⟨by omega, by omega⟩ | exact ⟨by rw [lP]; omega, by rw [lP]; omega⟩)
     | (apply Exists.intro; apply And.intro; · first | exact rfl | exact gi)
     | rw [hw]
     | fail
    all_goals (conv => whnf)
    refine VLoop.norm [0, 1, 4, 6] [4] ?_
    repeat' (conv => whnf); first
     | (apply And.intro; · first | exact Nat.le_of_ble_eq_true rfl | (show indep _ _ = true; kernel_rfl) | decide | exact pP)
     | (apply Exists.intro; apply And.intro; · first | exact rfl)
     | fail
    try rw [hw]
    exact ih (i + 1) hgo (by omega)
  case neg =>
    obtain rfl : i = r := by omega
    rcases hend with ⟨he, hf⟩ | ⟨x, w, hx, hk, hf⟩
    · rw [List.getElem?_eq_none (by omega)]
      repeat' (conv => whnf); first
       | (refine bcase_of (fun hr => ?_) (fun hr => ?_) <;> (try simp only [decide_eq_true_eq, decide_eq_false_iff_not, beq_iff_eq, beq_eq_false_iff_ne, ne_eq, bne_iff_ne, Bool.not_eq_true, ge_iff_le, gt_iff_lt] at hr) <;> try (exfalso; first | omega | (simp at hr; omega) | (simp at hr; done)))
       | (apply And.intro; · first | exact Nat.le_of_ble_eq_true rfl | (show indep _ _ = true; kernel_rfl) | decide | exact ⟨by decide, by decide⟩ | exact ⟨Nat.le_of_ble_eq_true rfl, allOne_of rfl⟩ | exact allOne_of rfl | exact ⟨by omega, by omega⟩ | exact ⟨by rw [lP]; omega, by rw [lP]; omega⟩)
       | (apply Exists.intro; apply And.intro; · first | exact rfl | exact gi)
       | rw [hw]
       | fail
      all_goals (conv => whnf)
      all_goals rfl
    · have gi := getP hx
      have hil := (List.getElem?_eq_some_iff.1 hx).1
      rw [hx]
      repeat' (conv => whnf); first
       | (refine bcase_of (fun hr => ?_) (fun hr => ?_) <;> (try simp only [decide_eq_true_eq, decide_eq_false_iff_not, beq_iff_eq, beq_eq_false_iff_ne, ne_eq, bne_iff_ne, Bool.not_eq_true, ge_iff_le, gt_iff_lt] at hr) <;> try (exfalso; first | omega | (simp at hr; omega) | (simp at hr; done)))
       | (apply And.intro; · first | exact Nat.le_of_ble_eq_true rfl | (show indep _ _ = true; kernel_rfl) | decide | exact ⟨by decide, by decide⟩ | exact ⟨Nat.le_of_ble_eq_true rfl, allOne_of rfl⟩ | exact allOne_of rfl | exact ⟨by omega, by omega⟩ | exact ⟨by rw [lP]; omega, by rw [lP]; omega⟩)
       | (apply Exists.intro; apply And.intro; · first | exact rfl | exact gi)
       | rw [hw]
       | fail
      all_goals (conv => whnf)
      all_goals rfl
def encN (r : List Nat) : List (List V) := r.map fun (x : Nat) => [i64V x]
abbrev nV (r : List Nat) : V := .lst 1 (encN r)
theorem pure_N (r : List Nat) : PureEs (encN r) := fun e he v hv => by
  obtain ⟨x, _, rfl⟩ := List.mem_map.1 he
  simp at hv
  subst hv
  exact .int _ _
theorem lenN (r : List Nat) : (encN r).length = r.length := by simp [encN]
theorem getN' {r : List Nat} {i x : Nat} (h : r[i]? = some x) : lget (encN r) (i : Int).toNat = some [i64V x] := by
  rw [lget_eq, Int.toNat_natCast, encN, List.getElem?_map, h]; rfl
def sumR (r : List Nat) (least : Nat) : Int := if r.all (fun x => decide (least ≤ x) && decide (x ≤ 6)) then (r.sum : Int) else -1
theorem sum_le : ∀ {r : List Nat}, (∀ x ∈ r, x ≤ 6) → r.sum ≤ 6 * r.length
  | [], _ => Nat.le_refl _
  | a :: t, h => by
    have := sum_le (r := t) fun x hx => h x (by simp [hx])
    have := h a (by simp)
    simp; omega
def stSum (r : List Nat) (least i : Nat) : St DV := mkSt 33 [(0, nV r), (1, i64V least), (5, i64V (r.take i).sum), (6, i64V i)] [] []
theorem sum16 (r : List Nat) (least : Nat) (hr : r.length ≤ 1000000) : PTriple Try.prog gv 53 [nV r, i64V least] (i64V (sumR r least)) := by
  have pN := pure_N r
  have lN := lenN r
  refine PTriple.of_body (C := cx) Try.func53 rfl (by kernel_rfl) (mixedOf _) fun E hE => ?_
  repeat' (conv => whnf); first
   | (refine bcase_of (fun hr => ?_) (fun hr => ?_) <;> (try simp only [decide_eq_true_eq, decide_eq_false_iff_not, beq_iff_eq, beq_eq_false_iff_ne, ne_eq, bne_iff_ne, Bool.not_eq_true, ge_iff_le, gt_iff_lt] at hr) <;> try (exfalso; first | omega | (simp at hr; omega) | (simp at hr; done)))
   | (apply And.intro; · first | exact Nat.le_of_ble_eq_true rfl | (show indep _ _ = true; kernel_rfl) | decide | exact ⟨by decide, by decide⟩ | exact ⟨Nat.le_of_ble_eq_true rfl, allOne_of rfl⟩ | exact allOne_of rfl)
   | (apply Exists.intro; apply And.intro; · first | exact rfl)
   | fail
  all_goals (conv => whnf)
  refine VLoop.norm [0, 1, 5, 6] [] ?_
  repeat' (conv => whnf); first
   | (apply And.intro; · first | exact Nat.le_of_ble_eq_true rfl | (show indep _ _ = true; kernel_rfl) | decide | exact pN)
   | (apply Exists.intro; apply And.intro; · first | exact rfl)
   | fail
  refine VLoop.inv (fun i : Nat => stSum r least i) (fun i => i ≤ r.length ∧ ∀ x ∈ r.take i, least ≤ x ∧ x ≤ 6) (fun i => r.length - i) 0 ⟨Nat.zero_le _, by simp⟩ rfl ?_
  intro i ⟨hi, ha⟩ ih
  have hw : IntKind.i64.wrap ((i : Int) + 1) = ((i + 1 : Nat) : Int) := wrap64 (by omega) (by omega)
  have hsl := sum_le (r := r.take i) fun x hx => (ha x hx).2
  rw [List.length_take] at hsl
  refine VLoop.unroll hE (mixedOf _) ?_
  by_cases hgo : i < r.length
  case pos =>
    obtain ⟨x, hx⟩ : ∃ x, r[i]? = some x := ⟨_, List.getElem?_eq_getElem hgo⟩
    have gi := getN' hx
    have ht := take_get hx
    by_cases hk : least ≤ x ∧ x ≤ 6
    case pos =>
      have hs : IntKind.i64.wrap (((r.take i).sum : Int) + (x : Int)) = (((r.take (i + 1)).sum : Nat) : Int) := by
        rw [ht, List.sum_append, wrap64 (by omega) (by omega)]; simp
      have ha2 : ∀ y ∈ r.take (i + 1), least ≤ y ∧ y ≤ 6 := fun y hy => by
        rw [ht] at hy
        rcases List.mem_append.1 hy with hy | hy
        · exact ha y hy
        · rw [List.mem_singleton.1 hy]; exact hk
      repeat' (conv => whnf); first
       | (refine bcase_of (fun hr => ?_) (fun hr => ?_) <;> (try simp only [decide_eq_true_eq, decide_eq_false_iff_not, beq_iff_eq, beq_eq_false_iff_ne, ne_eq, bne_iff_ne, Bool.not_eq_true, ge_iff_le, gt_iff_lt] at hr) <;> try (exfalso; first | omega | (simp at hr; omega) | (simp at hr; done)))
       | (apply And.intro; · first | exact Nat.le_of_ble_eq_true rfl | (show indep _ _ = true; kernel_rfl) | decide | exact ⟨by decide, by decide⟩ | exact ⟨Nat.le_of_ble_eq_true rfl, allOne_of rfl⟩ | exact allOne_of rfl | exact ⟨by omega, by omega⟩ | exact ⟨by rw [lN]; omega, by rw [lN]; omega⟩)
       | (apply Exists.intro; apply And.intro; · first | exact rfl | exact gi)
       | rw [hw]
       | rw [hs]
       | fail
      all_goals (conv => whnf)
      refine VLoop.norm [0, 1, 5, 6] [] ?_
      repeat' (conv => whnf); first
       | (apply And.intro; · first | exact Nat.le_of_ble_eq_true rfl | (show indep _ _ = true; kernel_rfl) | decide | exact pN)
       | (apply Exists.intro; apply And.intro; · first | exact rfl)
       | fail
      try rw [hw]
      try rw [hs]
      exact ih (i + 1) ⟨hgo, ha2⟩ (by omega)
    case neg =>
      have hf : r.all (fun x => decide (least ≤ x) && decide (x ≤ 6)) = false := by
        rw [List.all_eq_false]
        exact ⟨x, List.mem_of_getElem? hx, by simp; omega⟩
      unfold sumR
      rw [hf]
      repeat' (conv => whnf); first
       | (refine bcase_of (fun hr => ?_) (fun hr => ?_) <;> (try simp only [decide_eq_true_eq, decide_eq_false_iff_not, beq_iff_eq, beq_eq_false_iff_ne, ne_eq, bne_iff_ne, Bool.not_eq_true, ge_iff_le, gt_iff_lt] at hr) <;> try (exfalso; first | omega | (simp at hr; omega) | (simp at hr; done)))
       | (apply And.intro; · first | exact Nat.le_of_ble_eq_true rfl | (show indep _ _ = true; kernel_rfl) | decide | exact ⟨by decide, by decide⟩ | exact ⟨Nat.le_of_ble_eq_true rfl, allOne_of rfl⟩ | exact allOne_of rfl | exact ⟨by omega, by omega⟩ | exact ⟨by rw [lN]; omega, by rw [lN]; omega⟩)
       | (apply Exists.intro; apply And.intro; · first | exact rfl | exact gi)
       | rw [hw]
       | rw [hs]
       | fail
      all_goals (conv => whnf)
      all_goals rfl
  case neg =>
    have hall : r.all (fun x => decide (least ≤ x) && decide (x ≤ 6)) = true := by
      rw [List.all_eq_true]
      intro x hx
      rw [List.take_of_length_le (by omega)] at ha
      simpa using ha x hx
    have he : sumR r least = ((r.take i).sum : Int) := by unfold sumR; rw [hall, List.take_of_length_le (by omega)]; rfl
    rw [he]
    repeat' (conv => whnf); first
     | (refine bcase_of (fun hr => ?_) (fun hr => ?_) <;> (try simp only [decide_eq_true_eq, decide_eq_false_iff_not, beq_iff_eq, beq_eq_false_iff_ne, ne_eq, bne_iff_ne, Bool.not_eq_true, ge_iff_le, gt_iff_lt] at hr) <;> try (exfalso; first | omega | (simp at hr; omega) | (simp at hr; done)))
     | (apply And.intro; · first | exact Nat.le_of_ble_eq_true rfl | (show indep _ _ = true; kernel_rfl) | decide | exact ⟨by decide, by decide⟩ | exact ⟨Nat.le_of_ble_eq_true rfl, allOne_of rfl⟩ | exact allOne_of rfl | exact ⟨by omega, by omega⟩ | exact ⟨by rw [lN]; omega, by rw [lN]; omega⟩)
     | (apply Exists.intro; apply And.intro; · first | exact rfl | exact gi)
     | rw [hw]
     | rw [hs]
     | fail
    all_goals (conv => whnf)
    all_goals rfl
end Go.Proofs.Ytbppemcdphgknaa.T
/- Chapter 16: the reference: shaped. -/
namespace Go.Proofs.Ytbppemcdphgknaa.T
open Go Go.Vm
set_option maxRecDepth 100000
set_option maxHeartbeats 40000000
set_option linter.unusedSimpArgs false
set_option linter.unusedVariables false
theorem drop_get {α : Type} {l : List α} {i : Nat} {x : α} (h : l[i]? = some x) : l.drop i = x :: l.drop (i + 1) := by
  have hi := (List.getElem?_eq_some_iff.1 h).1
  rw [List.drop_eq_getElem_cons hi]
  congr 1
  rw [List.getElem?_eq_getElem hi] at h
  exact Option.some.inj h
def encS (s : List (List Nat)) : List (List V) := s.map fun (r : List Nat) => [nV r]
abbrev shV (s : List (List Nat)) : V := .lst 1 (encS s)
theorem pure_S (s : List (List Nat)) : PureEs (encS s) := fun e he v hv => by
  obtain ⟨x, _, rfl⟩ := List.mem_map.1 he
  simp at hv
  subst hv
  exact .lst (pure_N x)
theorem lenS (s : List (List Nat)) : (encS s).length = s.length := by simp [encS]
theorem getS {s : List (List Nat)} {i : Nat} {r : List Nat} (h : s[i]? = some r) : lget (encS s) (i : Int).toNat = some [nV r] := by
  rw [lget_eq, Int.toNat_natCast, encS, List.getElem?_map, h]; rfl
theorem getS0 {s : List (List Nat)} {r : List Nat} (h : s[0]? = some r) : lget (encS s) (0 : Int).toNat = some [nV r] := getS (i := 0) h
def lstN (s : List (List Nat)) (i : Nat) : Nat := if i = 0 then (if 1 < s.length then 2 else 0) else 3
theorem sumR_iff (r : List Nat) (least n : Nat) : sumR r least = (n : Int) ↔ (r.all (fun x => decide (least ≤ x) && decide (x ≤ 6)) && (r.sum == n)) = true := by
  unfold sumR
  split
  · rename_i h; rw [h]; simp
    omega
  · rename_i h
    have h' : r.all (fun x => decide (least ≤ x) && decide (x ≤ 6)) = false := by simpa using h
    rw [h']; simp <;> omega
theorem restB_cons (least : Nat) (r : List Nat) (rs : List (List Nat)) (keys : Nat) : restB least (r :: rs) keys = (decide (sumR r least = (nextN rs keys : Int)) && restB 3 rs keys) := by
  have := sumR_iff r least (nextN rs keys)
  simp only [restB]
  by_cases h : sumR r least = (nextN rs keys : Int)
  · rw [this.1 h]; simp [h]
  · have h2 : (r.all (fun x => decide (least ≤ x) && decide (x ≤ 6)) && (r.sum == nextN rs keys)) = false := by
      cases hh : (r.all (fun x => decide (least ≤ x) && decide (x ≤ 6)) && (r.sum == nextN rs keys)) with
      | false => rfl
      | true => exact absurd (this.2 hh) h
    rw [h2]; simp [h]
def stShd (s : List (List Nat)) (keys i : Nat) : St DV := mkSt 49 [(0, shV s), (1, i64V keys), (5, i64V i)] [] []
theorem shaped16 (s : List (List Nat)) (keys : Nat) (hs : s.length ≤ 1000) (hR : ∀ r ∈ s, r.length ≤ 1000000) (hk : keys ≤ 1000000000) : PTriple Try.prog gv 40 [shV s, i64V keys] (.bool (shapedB s keys)) := by
  have pS := pure_S s
  have lS := lenS s
  generalize hH : shapedB s keys = H
  cases hs0 : s[0]? with
  | none =>
    have : s = [] := by cases s with | nil => rfl | cons a b => simp at hs0
    subst this
    obtain rfl : H = false := hH.symm
    refine PTriple.of_body (C := cx) Try.func40 rfl (by kernel_rfl) (mixedOf _) fun E hE => ?_
    repeat' (conv => whnf); first
     | (refine bcase_of (fun hr => ?_) (fun hr => ?_) <;> (try simp only [decide_eq_true_eq, decide_eq_false_iff_not, beq_iff_eq, beq_eq_false_iff_ne, ne_eq, bne_iff_ne, Bool.not_eq_true, ge_iff_le, gt_iff_lt] at hr) <;> try (exfalso; first | omega | (simp at hr; omega) | (simp at hr; done)))
     | (apply And.intro; · first | exact Nat.le_of_ble_eq_true rfl | (show indep _ _ = true; kernel_rfl) | decide | exact ⟨by decide, by decide⟩ | exact ⟨Nat.le_of_ble_eq_true rfl, allOne_of rfl⟩ | exact allOne_of rfl)
     | (apply Exists.intro; apply And.intro; · first | exact rfl)
     | fail
    all_goals (conv => whnf)
    all_goals rfl
  | some r0 =>
    obtain ⟨rs, hse⟩ : ∃ rs, s = r0 :: rs := by
      cases s with
      | nil => simp at hs0
      | cons a b =>
        have hs1 : a = r0 := by simpa using hs0
        exact ⟨b, by rw [hs1]⟩
    have g0 := getS0 hs0
    have lN0 := lenN r0
    have hsl : 0 < s.length := by rw [hse]; simp
    by_cases hl0 : r0.length = 1
    case neg =>
      obtain rfl : H = false := by rw [← hH, hse]; simp [shapedB, hl0]
      refine PTriple.of_body (C := cx) Try.func40 rfl (by kernel_rfl) (mixedOf _) fun E hE => ?_
      repeat' (conv => whnf); first
       | (refine bcase_of (fun hr => ?_) (fun hr => ?_) <;> (try simp only [decide_eq_true_eq, decide_eq_false_iff_not, beq_iff_eq, beq_eq_false_iff_ne, ne_eq, bne_iff_ne, Bool.not_eq_true, ge_iff_le, gt_iff_lt] at hr) <;> try (exfalso; first | omega | (simp at hr; omega) | (simp at hr; done)))
       | (apply And.intro; · first | exact Nat.le_of_ble_eq_true rfl | (show indep _ _ = true; kernel_rfl) | decide | exact ⟨by decide, by decide⟩ | exact ⟨Nat.le_of_ble_eq_true rfl, allOne_of rfl⟩ | exact allOne_of rfl | exact ⟨by omega, by omega⟩ | exact ⟨by decide, by omega⟩)
       | (apply Exists.intro; apply And.intro; · first | exact rfl | exact g0)
       | fail
      all_goals (conv => whnf)
      all_goals rfl
    case pos =>
    have hrest0 : restB (lstN s 0) (s.drop 0) keys = H := by
      rw [← hH, hse]
      cases rs <;> simp [shapedB, hl0, lstN]
    refine PTriple.of_body (C := cx) Try.func40 rfl (by kernel_rfl) (mixedOf _) fun E hE => ?_
    repeat' (conv => whnf); first
     | (refine bcase_of (fun hr => ?_) (fun hr => ?_) <;> (try simp only [decide_eq_true_eq, decide_eq_false_iff_not, beq_iff_eq, beq_eq_false_iff_ne, ne_eq, bne_iff_ne, Bool.not_eq_true, ge_iff_le, gt_iff_lt] at hr) <;> try (exfalso; first | omega | (simp at hr; omega) | (simp at hr; done)))
     | (apply And.intro; · first | exact Nat.le_of_ble_eq_true rfl | (show indep _ _ = true; kernel_rfl) | decide | exact ⟨by decide, by decide⟩ | exact ⟨Nat.le_of_ble_eq_true rfl, allOne_of rfl⟩ | exact allOne_of rfl | exact ⟨by omega, by omega⟩ | exact ⟨by decide, by omega⟩)
     | (apply Exists.intro; apply And.intro; · first | exact rfl | exact g0)
     | fail
    all_goals (conv => whnf)
    refine VLoop.norm [0, 1, 5] [] ?_
    repeat' (conv => whnf); first
     | (apply And.intro; · first | exact Nat.le_of_ble_eq_true rfl | (show indep _ _ = true; kernel_rfl) | decide | exact pS)
     | (apply Exists.intro; apply And.intro; · first | exact rfl)
     | fail
    refine VLoop.inv (fun i : Nat => stShd s keys i) (fun i => i ≤ s.length ∧ restB (lstN s i) (s.drop i) keys = H) (fun i => s.length - i) 0 ⟨Nat.zero_le _, hrest0⟩ rfl ?_
    intro i ⟨hi, hrest⟩ ih
    have hw : IntKind.i64.wrap ((i : Int) + 1) = ((i + 1 : Nat) : Int) := wrap64 (by omega) (by omega)
    refine VLoop.unroll hE (mixedOf _) ?_
    by_cases hgo : i < s.length
    case neg =>
      rw [List.drop_eq_nil_of_le (by omega)] at hrest
      obtain rfl : H = true := hrest.symm
      repeat' (conv => whnf); first
       | (refine bcase_of (fun hr => ?_) (fun hr => ?_) <;> (try simp only [decide_eq_true_eq, decide_eq_false_iff_not, beq_iff_eq, beq_eq_false_iff_ne, ne_eq, bne_iff_ne, Bool.not_eq_true, ge_iff_le, gt_iff_lt] at hr) <;> try (exfalso; first | omega | (simp at hr; omega) | (simp at hr; done)))
       | (apply And.intro; · first | exact Nat.le_of_ble_eq_true rfl | (show indep _ _ = true; kernel_rfl) | decide | exact ⟨by decide, by decide⟩ | exact ⟨Nat.le_of_ble_eq_true rfl, allOne_of rfl⟩ | exact allOne_of rfl | exact ⟨by omega, by omega⟩ | exact ⟨by rw [lS]; omega, by rw [lS]; omega⟩ | exact pure_N _)
       | (apply Exists.intro; apply And.intro; · first | exact rfl | exact g0 | exact gi | exact gj)
       | rw [hw]
       | fail
      all_goals (conv => whnf)
      all_goals rfl
    case pos =>
    obtain ⟨r, hx⟩ : ∃ x, s[i]? = some x := ⟨_, List.getElem?_eq_getElem hgo⟩
    have gi := getS hx
    have lN := lenN r
    by_cases h0 : i = 0
    · by_cases h1 : i + 1 < s.length
      · have h1' : 1 < s.length := by omega
        have c := sum16 r 2 (hR r (List.mem_of_getElem? hx))
        have hL : lstN s i = 2 := by unfold lstN; first | (rw [if_pos h0, if_pos (by omega)]) | (rw [if_pos h0, if_neg (by omega)]) | (rw [if_neg h0])
        obtain ⟨r2, hx2⟩ : ∃ x, s[i + 1]? = some x := ⟨_, List.getElem?_eq_getElem h1⟩
        have gj := getS hx2
        have lN2 := lenN r2
        have hN : nextN (s.drop (i + 1)) keys = r2.length := by rw [drop_get hx2]; rfl
        rw [drop_get hx, restB_cons, hN, hL] at hrest
        by_cases hs : sumR r 2 = (r2.length : Nat)
        case pos =>
          rw [hs] at c
          rw [decide_eq_true hs, Bool.true_and] at hrest
          repeat' (conv => whnf); first
           | (refine bcase_of (fun hr => ?_) (fun hr => ?_) <;> (try simp only [decide_eq_true_eq, decide_eq_false_iff_not, beq_iff_eq, beq_eq_false_iff_ne, ne_eq, bne_iff_ne, Bool.not_eq_true, ge_iff_le, gt_iff_lt] at hr) <;> try (exfalso; first | omega | (simp at hr; omega) | (simp at hr; done)))
           | (apply And.intro; · first | exact Nat.le_of_ble_eq_true rfl | (show indep _ _ = true; kernel_rfl) | decide | exact ⟨by decide, by decide⟩ | exact ⟨Nat.le_of_ble_eq_true rfl, allOne_of rfl⟩ | exact allOne_of rfl | exact ⟨by omega, by omega⟩ | exact ⟨by rw [lS]; omega, by rw [lS]; omega⟩ | exact pure_N _)
           | (apply Exists.intro; apply And.intro; · first | exact rfl | exact c | exact g0 | exact gi | exact gj)
           | rw [hw]
           | fail
          all_goals (conv => whnf)
          refine VLoop.norm [0, 1, 5] [] ?_
          repeat' (conv => whnf); first
           | (apply And.intro; · first | exact Nat.le_of_ble_eq_true rfl | (show indep _ _ = true; kernel_rfl) | decide | exact pS)
           | (apply Exists.intro; apply And.intro; · first | exact rfl)
           | fail
          try rw [hw]
          exact ih (i + 1) ⟨hgo, by unfold lstN; rw [if_neg (by omega)]; exact hrest⟩ (by omega)
        case neg =>
          rw [decide_eq_false hs, Bool.false_and] at hrest
          subst hrest
          generalize sumR r 2 = sv at c hs
          repeat' (conv => whnf); first
           | (refine bcase_of (fun hr => ?_) (fun hr => ?_) <;> (try simp only [decide_eq_true_eq, decide_eq_false_iff_not, beq_iff_eq, beq_eq_false_iff_ne, ne_eq, bne_iff_ne, Bool.not_eq_true, ge_iff_le, gt_iff_lt] at hr) <;> try (exfalso; first | omega | (simp at hr; omega) | (simp at hr; done)))
           | (apply And.intro; · first | exact Nat.le_of_ble_eq_true rfl | (show indep _ _ = true; kernel_rfl) | decide | exact ⟨by decide, by decide⟩ | exact ⟨Nat.le_of_ble_eq_true rfl, allOne_of rfl⟩ | exact allOne_of rfl | exact ⟨by omega, by omega⟩ | exact ⟨by rw [lS]; omega, by rw [lS]; omega⟩ | exact pure_N _)
           | (apply Exists.intro; apply And.intro; · first | exact rfl | exact c | exact g0 | exact gi | exact gj)
           | rw [hw]
           | fail
          all_goals (conv => whnf)
          all_goals rfl
      · have h1' : s.length = 1 := by omega
        have c := sum16 r 0 (hR r (List.mem_of_getElem? hx))
        have hL : lstN s i = 0 := by unfold lstN; first | (rw [if_pos h0, if_pos (by omega)]) | (rw [if_pos h0, if_neg (by omega)]) | (rw [if_neg h0])
        have hN : nextN (s.drop (i + 1)) keys = keys := by rw [List.drop_eq_nil_of_le (by omega)]; rfl
        rw [drop_get hx, restB_cons, hN, hL] at hrest
        by_cases hs : sumR r 0 = (keys : Nat)
        case pos =>
          rw [hs] at c
          rw [decide_eq_true hs, Bool.true_and] at hrest
          repeat' (conv => whnf); first
           | (refine bcase_of (fun hr => ?_) (fun hr => ?_) <;> (try simp only [decide_eq_true_eq, decide_eq_false_iff_not, beq_iff_eq, beq_eq_false_iff_ne, ne_eq, bne_iff_ne, Bool.not_eq_true, ge_iff_le, gt_iff_lt] at hr) <;> try (exfalso; first | omega | (simp at hr; omega) | (simp at hr; done)))
           | (apply And.intro; · first | exact Nat.le_of_ble_eq_true rfl | (show indep _ _ = true; kernel_rfl) | decide | exact ⟨by decide, by decide⟩ | exact ⟨Nat.le_of_ble_eq_true rfl, allOne_of rfl⟩ | exact allOne_of rfl | exact ⟨by omega, by omega⟩ | exact ⟨by rw [lS]; omega, by rw [lS]; omega⟩ | exact pure_N _)
           | (apply Exists.intro; apply And.intro; · first | exact rfl | exact c | exact g0 | exact gi | exact gj)
           | rw [hw]
           | fail
          all_goals (conv => whnf)
          refine VLoop.norm [0, 1, 5] [] ?_
          repeat' (conv => whnf); first
           | (apply And.intro; · first | exact Nat.le_of_ble_eq_true rfl | (show indep _ _ = true; kernel_rfl) | decide | exact pS)
           | (apply Exists.intro; apply And.intro; · first | exact rfl)
           | fail
          try rw [hw]
          exact ih (i + 1) ⟨hgo, by unfold lstN; rw [if_neg (by omega)]; exact hrest⟩ (by omega)
        case neg =>
          rw [decide_eq_false hs, Bool.false_and] at hrest
          subst hrest
          generalize sumR r 0 = sv at c hs
          repeat' (conv => whnf); first
           | (refine bcase_of (fun hr => ?_) (fun hr => ?_) <;> (try simp only [decide_eq_true_eq, decide_eq_false_iff_not, beq_iff_eq, beq_eq_false_iff_ne, ne_eq, bne_iff_ne, Bool.not_eq_true, ge_iff_le, gt_iff_lt] at hr) <;> try (exfalso; first | omega | (simp at hr; omega) | (simp at hr; done)))
           | (apply And.intro; · first | exact Nat.le_of_ble_eq_true rfl | (show indep _ _ = true; kernel_rfl) | decide | exact ⟨by decide, by decide⟩ | exact ⟨Nat.le_of_ble_eq_true rfl, allOne_of rfl⟩ | exact allOne_of rfl | exact ⟨by omega, by omega⟩ | exact ⟨by rw [lS]; omega, by rw [lS]; omega⟩ | exact pure_N _)
           | (apply Exists.intro; apply And.intro; · first | exact rfl | exact c | exact g0 | exact gi | exact gj)
           | rw [hw]
           | fail
          all_goals (conv => whnf)
          all_goals rfl
    · by_cases h1 : i + 1 < s.length
      · skip
        have c := sum16 r 3 (hR r (List.mem_of_getElem? hx))
        have hL : lstN s i = 3 := by unfold lstN; first | (rw [if_pos h0, if_pos (by omega)]) | (rw [if_pos h0, if_neg (by omega)]) | (rw [if_neg h0])
        obtain ⟨r2, hx2⟩ : ∃ x, s[i + 1]? = some x := ⟨_, List.getElem?_eq_getElem h1⟩
        have gj := getS hx2
        have lN2 := lenN r2
        have hN : nextN (s.drop (i + 1)) keys = r2.length := by rw [drop_get hx2]; rfl
        rw [drop_get hx, restB_cons, hN, hL] at hrest
        by_cases hs : sumR r 3 = (r2.length : Nat)
        case pos =>
          rw [hs] at c
          rw [decide_eq_true hs, Bool.true_and] at hrest
          repeat' (conv => whnf); first
           | (refine bcase_of (fun hr => ?_) (fun hr => ?_) <;> (try simp only [decide_eq_true_eq, decide_eq_false_iff_not, beq_iff_eq, beq_eq_false_iff_ne, ne_eq, bne_iff_ne, Bool.not_eq_true, ge_iff_le, gt_iff_lt] at hr) <;> try (exfalso; first | omega | (simp at hr; omega) | (simp at hr; done)))
           | (apply And.intro; · first | exact Nat.le_of_ble_eq_true rfl | (show indep _ _ = true; kernel_rfl) | decide | exact ⟨by decide, by decide⟩ | exact ⟨Nat.le_of_ble_eq_true rfl, allOne_of rfl⟩ | exact allOne_of rfl | exact ⟨by omega, by omega⟩ | exact ⟨by rw [lS]; omega, by rw [lS]; omega⟩ | exact pure_N _)
           | (apply Exists.intro; apply And.intro; · first | exact rfl | exact c | exact g0 | exact gi | exact gj)
           | rw [hw]
           | fail
          all_goals (conv => whnf)
          refine VLoop.norm [0, 1, 5] [] ?_
          repeat' (conv => whnf); first
           | (apply And.intro; · first | exact Nat.le_of_ble_eq_true rfl | (show indep _ _ = true; kernel_rfl) | decide | exact pS)
           | (apply Exists.intro; apply And.intro; · first | exact rfl)
           | fail
          try rw [hw]
          exact ih (i + 1) ⟨hgo, by unfold lstN; rw [if_neg (by omega)]; exact hrest⟩ (by omega)
        case neg =>
          rw [decide_eq_false hs, Bool.false_and] at hrest
          subst hrest
          generalize sumR r 3 = sv at c hs
          repeat' (conv => whnf); first
           | (refine bcase_of (fun hr => ?_) (fun hr => ?_) <;> (try simp only [decide_eq_true_eq, decide_eq_false_iff_not, beq_iff_eq, beq_eq_false_iff_ne, ne_eq, bne_iff_ne, Bool.not_eq_true, ge_iff_le, gt_iff_lt] at hr) <;> try (exfalso; first | omega | (simp at hr; omega) | (simp at hr; done)))
           | (apply And.intro; · first | exact Nat.le_of_ble_eq_true rfl | (show indep _ _ = true; kernel_rfl) | decide | exact ⟨by decide, by decide⟩ | exact ⟨Nat.le_of_ble_eq_true rfl, allOne_of rfl⟩ | exact allOne_of rfl | exact ⟨by omega, by omega⟩ | exact ⟨by rw [lS]; omega, by rw [lS]; omega⟩ | exact pure_N _)
           | (apply Exists.intro; apply And.intro; · first | exact rfl | exact c | exact g0 | exact gi | exact gj)
           | rw [hw]
           | fail
          all_goals (conv => whnf)
          all_goals rfl
      · skip
        have c := sum16 r 3 (hR r (List.mem_of_getElem? hx))
        have hL : lstN s i = 3 := by unfold lstN; first | (rw [if_pos h0, if_pos (by omega)]) | (rw [if_pos h0, if_neg (by omega)]) | (rw [if_neg h0])
        have hN : nextN (s.drop (i + 1)) keys = keys := by rw [List.drop_eq_nil_of_le (by omega)]; rfl
        rw [drop_get hx, restB_cons, hN, hL] at hrest
        by_cases hs : sumR r 3 = (keys : Nat)
        case pos =>
          rw [hs] at c
          rw [decide_eq_true hs, Bool.true_and] at hrest
          repeat' (conv => whnf); first
           | (refine bcase_of (fun hr => ?_) (fun hr => ?_) <;> (try simp only [decide_eq_true_eq, decide_eq_false_iff_not, beq_iff_eq, beq_eq_false_iff_ne, ne_eq, bne_iff_ne, Bool.not_eq_true, ge_iff_le, gt_iff_lt] at hr) <;> try (exfalso; first | omega | (simp at hr; omega) | (simp at hr; done)))
           | (apply And.intro; · first | exact Nat.le_of_ble_eq_true rfl | (show indep _ _ = true; kernel_rfl) | decide | exact ⟨by decide, by decide⟩ | exact ⟨Nat.le_of_ble_eq_true rfl, allOne_of rfl⟩ | exact allOne_of rfl | exact ⟨by omega, by omega⟩ | exact ⟨by rw [lS]; omega, by rw [lS]; omega⟩ | exact pure_N _)
           | (apply Exists.intro; apply And.intro; · first | exact rfl | exact c | exact g0 | exact gi | exact gj)
           | rw [hw]
           | fail
          all_goals (conv => whnf)
          refine VLoop.norm [0, 1, 5] [] ?_
          repeat' (conv => whnf); first
           | (apply And.intro; · first | exact Nat.le_of_ble_eq_true rfl | (show indep _ _ = true; kernel_rfl) | decide | exact pS)
           | (apply Exists.intro; apply And.intro; · first | exact rfl)
           | fail
          try rw [hw]
          exact ih (i + 1) ⟨hgo, by unfold lstN; rw [if_neg (by omega)]; exact hrest⟩ (by omega)
        case neg =>
          rw [decide_eq_false hs, Bool.false_and] at hrest
          subst hrest
          generalize sumR r 3 = sv at c hs
          repeat' (conv => whnf); first
           | (refine bcase_of (fun hr => ?_) (fun hr => ?_) <;> (try simp only [decide_eq_true_eq, decide_eq_false_iff_not, beq_iff_eq, beq_eq_false_iff_ne, ne_eq, bne_iff_ne, Bool.not_eq_true, ge_iff_le, gt_iff_lt] at hr) <;> try (exfalso; first | omega | (simp at hr; omega) | (simp at hr; done)))
           | (apply And.intro; · first | exact Nat.le_of_ble_eq_true rfl | (show indep _ _ = true; kernel_rfl) | decide | exact ⟨by decide, by decide⟩ | exact ⟨Nat.le_of_ble_eq_true rfl, allOne_of rfl⟩ | exact allOne_of rfl | exact ⟨by omega, by omega⟩ | exact ⟨by rw [lS]; omega, by rw [lS]; omega⟩ | exact pure_N _)
           | (apply Exists.intro; apply And.intro; · first | exact rfl | exact c | exact g0 | exact gi | exact gj)
           | rw [hw]
           | fail
          all_goals (conv => whnf)
          all_goals rfl
end Go.Proofs.Ytbppemcdphgknaa.T
/- Chapter 16: Shape. -/
namespace Go.Proofs.Ytbppemcdphgknaa.T
open Go Go.Vm
set_option maxRecDepth 100000
set_option maxHeartbeats 40000000
set_option linter.unusedSimpArgs false
set_option linter.unusedVariables false
theorem pureNil : PureEs ([] : List (List V)) := fun e he => by cases he
def encI (r : List Int) : List (List V) := r.map fun x => [i64V x]
theorem pure_I (r : List Int) : PureEs (encI r) := fun e he v hv => by
  obtain ⟨x, _, rfl⟩ := List.mem_map.1 he
  simp at hv
  subst hv
  exact .int _ _
theorem lenI (r : List Int) : (encI r).length = r.length := by simp [encI]
theorem getI {r : List Int} {i : Nat} {x : Int} (h : r[i]? = some x) : lget (encI r) (i : Int).toNat = some [i64V x] := by
  rw [lget_eq, Int.toNat_natCast, encI, List.getElem?_map, h]; rfl
theorem chB {m : PL} (h : m.length ≤ 6) : chunks 1 m.length ((bc (B m)).drop 7) = encI (m.map (·.2)) := by
  rcases len_cases h with rfl | ⟨a, rfl⟩ | ⟨a, b, rfl⟩ | ⟨a, b, c, rfl⟩ | ⟨a, b, c, d, rfl⟩ | ⟨a, b, c, d, e, rfl⟩ | ⟨a, b, c, d, e, f, rfl⟩ <;> rfl
def stSh (L : List PL) (F : List Nat) (root h n : Int) (o : List (List Nat)) (row : List Int) (i : Nat) : St DV :=
  mkStX 56 2 [(0, .ref (0, 0) 0), (3, .rsl (53, 1) 1 0 o.length), (4, .lst 1 (encI row)), (21, i64V (h + 1)), (22, i64V i)] [(56, .row 13 (rowL L) false), (57, .row 1 (rowF F) false), (52, .row 1 (encS o) false)] [some (.box (tC (57, 1) (58, 1) L.length F.length root h n))]
def stSi (L : List PL) (F : List Nat) (root h n : Int) (o : List (List Nat)) (row : List Int) (i : Nat) (cnt : List Nat) (und : List Int) (j : Nat) : St DV :=
  mkStX 56 2 [(0, .ref (0, 0) 0), (3, .rsl (53, 1) 1 0 o.length), (4, .lst 1 (encI row)), (5, .rsl (42, 1) 1 0 cnt.length), (6, .rsl (48, 1) 1 0 und.length), (21, i64V (h + 1)), (22, i64V i), (24, .lst 1 (encI row)), (25, i64V row.length), (26, i64V j)] [(56, .row 13 (rowL L) false), (57, .row 1 (rowF F) false), (52, .row 1 (encS o) false), (41, .row 1 (encN cnt) false), (47, .row 1 (encI und) false)] [some (.box (tC (57, 1) (58, 1) L.length F.length root h n))]
def valsAt (L : List PL) (p : Nat) : List Int := (L[p]?.getD []).map (·.2)
theorem vals_len (L : List PL) (p : Nat) : (valsAt L p).length = sz L p := by simp [valsAt, sz]
theorem vals_kids {L : List PL} {h : Nat} {c : Ch} (hs : Sub L (h + 1) c.p c.S c.ks) : (kidsAt L c.p).map (fun (n : Nat) => (n : Int)) = valsAt L c.p := by
  obtain ⟨cs, g1, _⟩ := hs.kids
  simp [kidsAt, valsAt, g1, nodeB]
theorem down_v {L : List PL} {h : Nat} {cs cs2 : List Ch} (hs : ∀ c ∈ cs, Sub L (h + 1) c.p c.S c.ks) (e : cs2.map (·.p) = (cs.map (·.p)).flatMap (kidsAt L)) : cs.flatMap (fun c => valsAt L c.p) = cs2.map fun c => (c.p : Int) := by
  have h1 : cs2.map (fun c => (c.p : Int)) = (cs2.map (·.p)).map fun (n : Nat) => (n : Int) := by rw [List.map_map]; rfl
  rw [h1, e, List.map_flatMap, List.flatMap_map]
  clear e h1
  induction cs with
  | nil => rfl
  | cons c r ih => rw [List.flatMap_cons, List.flatMap_cons, ih fun d hd => hs d (by simp [hd]), vals_kids (hs c (by simp))]
theorem for_len {L : List PL} {k : Nat} : ∀ {cs : List Ch}, For L k cs → cs.length ≤ (cs.map (·.ks.length)).sum
  | [], _ => Nat.le_refl _
  | c :: r, hf => by
    have h1 := for_len (cs := r) fun d hd => hf d (by simp [hd])
    have h2 := (hf c (by simp)).1.ne (by have := (hf c (by simp)).2; omega)
    have h3 : c.ks.length ≠ 0 := by simpa using h2
    simp; omega
theorem flat_le {L : List PL} : ∀ {cs : List Ch}, (∀ c ∈ cs, sz L c.p ≤ 6) → (cs.flatMap fun c => valsAt L c.p).length ≤ 6 * cs.length
  | [], _ => Nat.le_refl _
  | c :: r, hf => by
    have h1 := flat_le (cs := r) fun d hd => hf d (by simp [hd])
    have h2 := hf c (by simp)
    rw [List.flatMap_cons, List.length_append, vals_len, List.length_cons]; omega
structure ZT where
  cnt : List Nat
  und : List Int
  j : Nat
structure ZS where
  o : List (List Nat)
  row : List Int
  i : Nat
structure ZI (L : List PL) (h root T : Nat) (z : ZS) : Prop where
  le : z.i ≤ h + 1
  len : z.o.length = z.i
  go : z.i ≤ h → ∃ cs : List Ch, z.row = cs.map (fun c => (c.p : Int)) ∧ (∀ c ∈ cs, Sub L (h - z.i) c.p c.S c.ks) ∧ (cs.map (·.ks.length)).sum = T ∧ cs.length ≤ T + 1 ∧ lev L h [root] = z.o ++ lev L (h - z.i) (cs.map (·.p))
  fin : z.i = h + 1 → z.o = lev L h [root]
theorem ZI.start {L : List PL} {h root : Nat} {S : List Nat} {ks : PL} (hs : Sub L h root S ks) : ZI L h root ks.length ⟨[], [(root : Int)], 0⟩ :=
  ⟨by simp, rfl, fun _ => ⟨[⟨0, root, S, ks⟩], rfl, fun c hc => by obtain rfl := List.mem_singleton.1 hc; exact hs, by simp, by simp, rfl⟩, fun h => by simp at h⟩
theorem ZI.step {L : List PL} {h root T : Nat} {o : List (List Nat)} {i : Nat} {cs : List Ch} (hi : i ≤ h) (ho : o.length = i) (hs : ∀ c ∈ cs, Sub L (h - i) c.p c.S c.ks) (hT : (cs.map (·.ks.length)).sum = T) (hl : lev L h [root] = o ++ lev L (h - i) (cs.map (·.p))) :
    ZI L h root T ⟨o ++ [cs.map fun c => sz L c.p], cs.flatMap fun c => valsAt L c.p, i + 1⟩ := by
  refine ⟨by simp; omega, by simp [ho], fun hi2 => ?_, fun he => ?_⟩
  · simp only at hi2
    obtain ⟨k, hk⟩ : ∃ k, h - i = k + 1 := ⟨h - i - 1, by omega⟩
    have hk' : h - (i + 1) = k := by omega
    rw [hk] at hs hl
    obtain ⟨cs2, q1, q2, q3, q4⟩ := down hs
    refine ⟨cs2, down_v hs q2, fun c hc => by rw [hk']; exact (q1 c hc).1, by rw [q3, hT], ?_, ?_⟩
    · have := for_len q1
      omega
    · show lev L h [root] = (o ++ [cs.map fun c => sz L c.p]) ++ lev L (h - (i + 1)) (cs2.map (·.p))
      rw [hk', hl, q2, List.append_assoc]
      simp [lev, Function.comp_def]
  · simp only at he
    have h0 : h - i = 0 := by omega
    rw [h0] at hl
    show o ++ [cs.map fun c => sz L c.p] = lev L h [root]
    rw [hl]
    simp [lev, Function.comp_def]
theorem allN (r : List Nat) : allOne (encN r) 1 := fun e he => by
  obtain ⟨x, _, rfl⟩ := List.mem_map.1 he
  exact ⟨rfl, rfl⟩
theorem allI (r : List Int) : allOne (encI r) 1 := fun e he => by
  obtain ⟨x, _, rfl⟩ := List.mem_map.1 he
  exact ⟨rfl, rfl⟩
theorem ra1 (es xs : List (List V)) (k : Nat) (hk : es.length = k) (b : Nat) (hb : b ≤ 24) (h : k + xs.length ≤ 20000000) : 0 + k ≤ es.length ∧ (false = true → 0 + k = es.length) ∧ (k + xs.length) * b ≤ roomBound ∧ k + xs.length ≤ roomBound :=
  ⟨by omega, (by intro h; cases h), by
    have : (k + xs.length) * b ≤ 20000000 * 24 := Nat.mul_le_mul h hb
    unfold roomBound; omega, by unfold roomBound; omega⟩
theorem takeN (o : List Nat) : ((encN o).drop 0).take o.length = encN o := by rw [List.drop_zero, List.take_of_length_le (by rw [lenN]; exact Nat.le_refl _)]
theorem takeI (o : List Int) : ((encI o).drop 0).take o.length = encI o := by rw [List.drop_zero, List.take_of_length_le (by rw [lenI]; exact Nat.le_refl _)]
theorem takeS (o : List (List Nat)) : ((encS o).drop 0).take o.length = encS o := by rw [List.drop_zero, List.take_of_length_le (by rw [lenS]; exact Nat.le_refl _)]
theorem addN (o : List Nat) (x : Nat) : ((encN o).drop 0).take o.length ++ ([[i64V x]].drop 0).take 1 = encN (o ++ [x]) := by rw [takeN]; simp [encN]
theorem addI (o q : List Int) : ((encI o).drop 0).take o.length ++ encI q = encI (o ++ q) := by rw [takeI]; simp [encI]
theorem addS (o : List (List Nat)) (x : List Nat) : ((encS o).drop 0).take o.length ++ ([[nV x]].drop 0).take 1 = encS (o ++ [x]) := by rw [takeS]; simp [encS]
theorem shape_ok (L : List PL) (F : List Nat) (root h : Nat) (n : Int) (hh : h ≤ 1000000) {S : List Nat} {ks : PL} (hs : Sub L h root S ks) (hk : ks.length ≤ 900000) : ATriple Try.prog gv R0 41 [.ref (0, 0) 0] [.abs (trD L F root h n)] (shV (lev L h [root])) [.abs (trD L F root h n)] (none) := by
  have pL := pure_L L
  have pF := pure_F F
  have lL := rowL_len L
  have hh1 : IntKind.i64.wrap ((h : Int) + 1) = (h : Int) + 1 := wrap64 (by omega) (by omega)
  refine ATriple.of_bodyW (C := cxT) Try.func41 rfl (by kernel_rfl) (mixedOf _) rfl (by simp [okA, okC, okN]) (by simp [okOb, okC, okN]) (by simp [okG, okA, okC, okN]; exact pure_S _) (by simp [okOb, okC, okN]) (fun o ho => by cases ho) 2 [.opn (0, 0) [56, 57]] fun E hE => ?_
  repeat' (conv => whnf); first
   | (refine bcase_of (fun hr => ?_) (fun hr => ?_) <;> (try simp only [decide_eq_true_eq, decide_eq_false_iff_not, beq_iff_eq, beq_eq_false_iff_ne, ne_eq] at hr) <;> try (exfalso; first | omega | (simp at hr; omega) | (simp at hr; done)))
   | (apply And.intro; · first | exact Nat.le_of_ble_eq_true rfl | (show indep _ _ = true; kernel_rfl) | decide | exact ⟨by decide, by decide⟩ | exact ⟨Nat.le_of_ble_eq_true rfl, allOne_of rfl⟩ | exact allOne_of rfl | exact ⟨rfl, rfl⟩)
   | (apply Exists.intro; apply And.intro; · first | exact rfl)
   | rw [hh1]
   | fail
  all_goals (conv => whnf)
  refine VLoop.adopt 3 52 1 ?_
  conv => whnf
  refine VLoop.weak [.snapT 4] ?_
  conv => whnf
  refine ⟨⟨rfl, Nat.le_of_ble_eq_true rfl⟩, ?_⟩
  conv => whnf
  refine VLoop.norm [0, 3, 4, 21, 22] [56, 57, 52] ?_
  repeat' (conv => whnf); first
   | (apply And.intro; · first | exact Nat.le_of_ble_eq_true rfl | (show indep _ _ = true; kernel_rfl) | decide | exact pL | exact pF | exact pure_I [(root : Int)] | exact pureNil)
   | (apply Exists.intro; apply And.intro; · first | exact rfl)
   | fail
  refine VLoop.inv (fun z : ZS => stSh L F root h n z.o z.row z.i) (fun z => ZI L h root ks.length z) (fun z => h + 1 - z.i) ⟨[], [(root : Int)], 0⟩ (ZI.start hs) rfl ?_
  rintro ⟨o, row, i⟩ ⟨hi, ho, hgo', hfin⟩ ih
  simp only at hi ho hgo' hfin ih
  show VLoop cxT E _ (stSh L F root h n o row i) _
  have hw : IntKind.i64.wrap ((i : Int) + 1) = ((i + 1 : Nat) : Int) := wrap64 (by omega) (by omega)
  have lS := lenS o
  have pS := pure_S o
  refine VLoop.unroll hE (mixedOf _) ?_
  by_cases hgo : i ≤ h
  case neg =>
    have he := hfin (by omega)
    rw [← he]
    repeat' (conv => whnf); first
     | (refine bcase_of (fun hr => ?_) (fun hr => ?_) <;> (try simp only [decide_eq_true_eq, decide_eq_false_iff_not, beq_iff_eq, beq_eq_false_iff_ne, ne_eq] at hr) <;> try (exfalso; first | omega | (simp at hr; omega) | (simp at hr; done)))
     | (apply And.intro; · first | exact Nat.le_of_ble_eq_true rfl | (show indep _ _ = true; kernel_rfl) | decide | exact ⟨by decide, by decide⟩ | exact ⟨Nat.le_of_ble_eq_true rfl, allOne_of rfl⟩ | exact allOne_of rfl | exact ⟨rfl, rfl⟩ | exact ⟨by omega, by omega⟩ | exact pS | (rw [lS]; omega) | (rw [takeS]; exact pS))
     | (apply Exists.intro; apply And.intro; · first | exact rfl)
     | fail
    all_goals (conv => whnf)
    refine ⟨[.shut (0, 0) (trD L F root h n)], ?_⟩
    conv => whnf
    refine ⟨shut_tr _ _ L F root h n rfl rfl rfl rfl, ?_⟩
    conv => whnf
    exact ⟨by rw [takeS]; rfl, rfl⟩
  case pos =>
    obtain ⟨cs, hrow, hsub, hT, hcl, hlev⟩ := hgo' hgo
    have hstep := ZI.step hgo ho hsub hT hlev
    have hrl : row.length = cs.length := by rw [hrow]; simp
    have pR := pure_I row
    have lR := lenI row
    repeat' (conv => whnf); first
     | (refine bcase_of (fun hr => ?_) (fun hr => ?_) <;> (try simp only [decide_eq_true_eq, decide_eq_false_iff_not, beq_iff_eq, beq_eq_false_iff_ne, ne_eq] at hr) <;> try (exfalso; first | omega | (simp at hr; omega) | (simp at hr; done)))
     | (apply And.intro; · first | exact Nat.le_of_ble_eq_true rfl | (show indep _ _ = true; kernel_rfl) | decide | exact ⟨by decide, by decide⟩ | exact ⟨Nat.le_of_ble_eq_true rfl, allOne_of rfl⟩ | exact allOne_of rfl | exact ⟨rfl, rfl⟩ | exact ⟨by omega, by omega⟩ | exact pS)
     | (apply Exists.intro; apply And.intro; · first | exact rfl)
     | fail
    all_goals (conv => whnf)
    refine VLoop.adopt 5 41 1 ?_
    conv => whnf
    refine VLoop.adopt 6 47 1 ?_
    conv => whnf
    refine VLoop.norm [0, 3, 4, 5, 6, 21, 22, 24, 25, 26] [56, 57, 52, 41, 47] ?_
    repeat' (conv => whnf); first
     | (apply And.intro; · first | exact Nat.le_of_ble_eq_true rfl | (show indep _ _ = true; kernel_rfl) | decide | exact pL | exact pF | exact pR | exact pure_I _ | exact pure_S _ | exact pure_N _ | exact pureNil)
     | (apply Exists.intro; apply And.intro; · first | exact rfl)
     | fail
    refine VLoop.inv (fun z : ZT => stSi L F root h n o row i z.cnt z.und z.j) (fun z => z.j ≤ cs.length ∧ z.cnt = (cs.take z.j).map (fun c => sz L c.p) ∧ z.und = (cs.take z.j).flatMap (fun c => valsAt L c.p)) (fun z => cs.length - z.j) ⟨[], [], 0⟩ ⟨Nat.zero_le _, rfl, rfl⟩ (by unfold stSi; rw [← lR]; rfl) ?_
    rintro ⟨cnt, und, j⟩ ⟨hj, hcnt, hund⟩ ihj
    simp only at hj hcnt hund ihj
    show VLoop cxT E _ (stSi L F root h n o row i cnt und j) _
    have hwj : IntKind.i64.wrap ((j : Int) + 1) = ((j + 1 : Nat) : Int) := wrap64 (by omega) (by omega)
    have h6 : ∀ c ∈ cs, sz L c.p ≤ 6 := fun c hc => (hsub c hc).sz6
    have hul : und.length ≤ 6 * j := by
      rw [hund]
      refine Nat.le_trans (flat_le fun c hc => h6 c (List.mem_of_mem_take hc)) ?_
      rw [List.length_take]; omega
    have hcl2 : cnt.length = j := by rw [hcnt]; simp; omega
    have pC := pure_N cnt
    have pU := pure_I und
    have lC := lenN cnt
    have lU := lenI und
    by_cases hjo : j < cs.length
    case pos =>
      obtain ⟨c, hc⟩ : ∃ c, cs[j]? = some c := ⟨_, List.getElem?_eq_getElem hjo⟩
      have hcm := List.mem_of_getElem? hc
      obtain ⟨m, gm, hm⟩ := (hsub c hcm).blk
      have hm6 := hm.len
      have hcL := (List.getElem?_eq_some_iff.1 gm).1
      have hrj : row[j]? = some (c.p : Int) := by rw [hrow, List.getElem?_map, hc]; rfl
      have gr := getI hrj
      have gb : lget (rowL L) (0 + (c.p : Int).toNat) = some (bc (B m)) := by rw [Int.toNat_natCast, Nat.zero_add]; exact rowL_get gm
      have hnm := n_B hm6
      have hsz := sz_of gm
      have hva : valsAt L c.p = m.map (·.2) := by simp [valsAt, gm]
      have hch := chB hm6
      have htk := take_get hc
      refine VLoop.unroll hE (mixedOf _) ?_
      repeat' (conv => whnf); first
       | (refine bcase_of (fun hr => ?_) (fun hr => ?_) <;> (try simp only [decide_eq_true_eq, decide_eq_false_iff_not, beq_iff_eq, beq_eq_false_iff_ne, ne_eq] at hr) <;> try (exfalso; first | omega | (simp at hr; omega) | (simp at hr; done)))
       | (apply And.intro; · first | exact Nat.le_of_ble_eq_true rfl | (show indep _ _ = true; kernel_rfl) | decide | exact ⟨by decide, by decide⟩ | exact ⟨Nat.le_of_ble_eq_true rfl, allOne_of rfl⟩ | exact allOne_of rfl | exact ⟨rfl, rfl⟩ | exact ⟨by omega, by omega⟩ | exact pS | exact ⟨by omega, by rw [lR]; omega⟩ | exact ra1 _ _ _ lC 8 (by decide) (by simp; omega) | (show 0 + 7 + 0 * 1 + (m.length - 0) * 1 ≤ 13; omega) | (show allOne (chunks 1 m.length ((bc (B m)).drop 7)) 1; rw [hch]; exact allI _) | exact ra1 _ _ _ lU 8 (by decide) (by show und.length + (chunks 1 m.length ((bc (B m)).drop 7)).length ≤ 20000000; rw [hch, lenI, List.length_map]; omega))
       | (apply Exists.intro; apply And.intro; · first | exact rfl | exact gr | exact gb)
       | rw [hnm]
       | fail
      all_goals (conv => whnf)
      refine VLoop.norm [0, 3, 4, 5, 6, 21, 22, 24, 25, 26] [56, 57, 52, 41, 47] ?_
      repeat' (conv => whnf); first
       | (apply And.intro; · first | exact Nat.le_of_ble_eq_true rfl | (show indep _ _ = true; kernel_rfl) | decide | exact pL | exact pF | exact pR | exact pure_I _ | exact pure_S _ | exact pure_N _ | exact pureNil | (rw [addN]; exact pure_N _) | (show PureEs (((encI und).drop 0).take und.length ++ chunks 1 m.length ((bc (B m)).drop 7)); rw [hch, addI]; exact pure_I _))
       | (apply Exists.intro; apply And.intro; · first | exact rfl)
       | fail
      try rw [hwj]
      have h := ihj ⟨cnt ++ [m.length], und ++ m.map (·.2), j + 1⟩ ⟨hjo, by rw [htk, List.map_append, ← hcnt, List.map_singleton, hsz], by rw [htk, List.flatMap_append, ← hund, List.flatMap_singleton, hva]⟩ (by show cs.length - (j + 1) < cs.length - j; omega)
      dsimp only at h
      have e3 : (und ++ m.map (·.2)).length = und.length + (chunks 1 m.length ((bc (B m)).drop 7)).length := by rw [hch, lenI]; simp
      unfold stSi at h
      rw [← addN, ← addI, ← hch, e3, List.length_append] at h
      exact h
    case neg =>
      obtain rfl : j = cs.length := by omega
      rw [List.take_length] at hcnt hund
      refine VLoop.weak [.snapT 5, .snapT 6] ?_
      conv => whnf
      refine ⟨⟨rfl, by rw [lC]; omega⟩, ?_⟩
      conv => whnf
      refine ⟨⟨rfl, by rw [lU]; omega⟩, ?_⟩
      conv => whnf
      refine VLoop.unroll hE (mixedOf _) ?_
      repeat' (conv => whnf); first
       | (refine bcase_of (fun hr => ?_) (fun hr => ?_) <;> (try simp only [decide_eq_true_eq, decide_eq_false_iff_not, beq_iff_eq, beq_eq_false_iff_ne, ne_eq] at hr) <;> try (exfalso; first | omega | (simp at hr; omega) | (simp at hr; done)))
       | (apply And.intro; · first | exact Nat.le_of_ble_eq_true rfl | (show indep _ _ = true; kernel_rfl) | decide | exact ⟨by decide, by decide⟩ | exact ⟨Nat.le_of_ble_eq_true rfl, allOne_of rfl⟩ | exact allOne_of rfl | exact ⟨rfl, rfl⟩ | exact ⟨by omega, by omega⟩ | exact pS | exact ra1 _ _ _ lS 24 (by decide) (by simp; omega))
       | (apply Exists.intro; apply And.intro; · first | exact rfl)
       | rw [hw]
       | fail
      all_goals (conv => whnf)
      refine VLoop.norm [0, 3, 4, 21, 22] [56, 57, 52] ?_
      repeat' (conv => whnf); first
       | (apply And.intro; · first | exact Nat.le_of_ble_eq_true rfl | (show indep _ _ = true; kernel_rfl) | decide | exact pL | exact pF | exact pR | exact pure_I _ | exact pure_S _ | exact pure_N _ | exact pureNil | (rw [takeI]; exact pure_I _) | (rw [takeN, addS]; exact pure_S _))
       | (apply Exists.intro; apply And.intro; · first | exact rfl)
       | fail
      try rw [hw]
      have h2 := ih ⟨o ++ [cnt], und, i + 1⟩ (by rw [hcnt, hund]; exact hstep) (by show h + 1 - (i + 1) < h + 1 - i; omega)
      dsimp only at h2
      have e4 : encS (o ++ [cnt]) = ((encS o).drop 0).take o.length ++ ([[V.lst 1 (((encN cnt).drop 0).take cnt.length)]].drop 0).take 1 := by rw [takeN]; exact (addS o cnt).symm
      have e5 : encI und = ((encI und).drop 0).take und.length := (takeI und).symm
      unfold stSh at h2
      rw [e4, e5, List.length_append] at h2
      exact h2
end Go.Proofs.Ytbppemcdphgknaa.T
/- Chapter 16: a tree and its acts. -/
namespace Go.Proofs.Ytbppemcdphgknaa.T
open Go Go.Vm
set_option maxRecDepth 100000
set_option maxHeartbeats 40000000
set_option linter.unusedSimpArgs false
set_option linter.unusedVariables false
/-- A tree in memory. -/
structure TZ where
  L : List PL
  F : List Nat
  root : Nat
  h : Nat
  ks : PL
def trZ (z : TZ) : DV := trD z.L z.F z.root z.h z.ks.length
def TZ.new : TZ := ⟨[[]], [], 0, 0, []⟩
/-- After i acts. -/
structure ZOk (i : Nat) (z : TZ) : Prop where
  ts : TS z.L z.F z.root z.h z.ks
  hh : z.h ≤ i
  lL : z.L.length ≤ 1 + 402 * i
  lF : z.F.length ≤ 402 * i
  lk : z.ks.length ≤ i
theorem ZOk.new : ZOk 0 TZ.new := ⟨TS.new, Nat.le_refl _, by simp [TZ.new], by simp [TZ.new], by simp [TZ.new]⟩
theorem ZOk.le {i j : Nat} {z : TZ} (h : ZOk i z) (hij : i ≤ j) : ZOk j z := ⟨h.ts, by have := h.hh; omega, by have := h.lL; omega, by have := h.lF; omega, by have := h.lk; omega⟩
theorem newZ : ATriple Try.prog gv R0 29 [] [] (.ref (0, 0) 0) [] (some (.abs (trZ TZ.new))) := new_ok
theorem putZ {i : Nat} {z : TZ} (h : ZOk i z) (hi : i < 400) (k v : Int) : ∃ z', ATriple Try.prog gv R0 30 [.ref (0, 0) 0, u32V k, i64V v] [.abs (trZ z)] (.tup []) [.abs (trZ z')] none ∧ ZOk (i + 1) z' ∧ z'.ks = lay z.ks k v := by
  obtain ⟨h1, h2, h3, h4, h5⟩ := h
  obtain ⟨L', F', r', h', c, t, q1, q2, q3⟩ := put_ts h1 (by omega) (by omega) (by omega) k v
  refine ⟨⟨L', F', r', h', lay z.ks k v⟩, c, ⟨t, by show h' ≤ _; omega, by show L'.length ≤ _; omega, by show F'.length ≤ _; omega, ?_⟩, rfl⟩
  show (lay z.ks k v).length ≤ _
  rw [lay_len]; split <;> omega
theorem dropZ {i : Nat} {z : TZ} (h : ZOk i z) (hi : i < 400) (k : Int) : ∃ z', ATriple Try.prog gv R0 33 [.ref (0, 0) 0, u32V k] [.abs (trZ z)] (.bool (has z.ks k)) [.abs (trZ z')] none ∧ ZOk (i + 1) z' ∧ z'.ks = out z.ks k := by
  obtain ⟨h1, h2, h3, h4, h5⟩ := h
  obtain ⟨L', F', r', h', c, t, q1, q2, q3⟩ := drop_ts h1 (by omega) (by omega) (by omega) k
  refine ⟨⟨L', F', r', h', out z.ks k⟩, c, ⟨t, by show h' ≤ _; omega, by show L'.length ≤ _; omega, by show F'.length ≤ _; omega, ?_⟩, rfl⟩
  have : (out z.ks k).length ≤ z.ks.length := List.length_filter_le _ _
  show (out z.ks k).length ≤ _
  omega
/-- What a key has; 0. -/
def gt (l : PL) (k : Int) : Int := match nx l k with
  | some e => if e.1 = k then e.2 else 0
  | none => 0
theorem has_nx : ∀ {l : PL} {k : Int}, has l k = (match nx l k with | some e => e.1 == k | none => false)
  | [], _ => rfl
  | a :: r, k => by
    by_cases h : a.1 < k
    · have := has_nx (l := r) (k := k)
      unfold nx at this ⊢
      rw [List.find?_cons_of_neg (by simp; omega), has, if_pos h]
      exact this
    · unfold nx
      rw [List.find?_cons_of_pos (by simp; omega), has, if_neg h]
theorem gt_mem {l : PL} {k : Int} (h : has l k = true) : nx l k = some (k, gt l k) ∧ (k, gt l k) ∈ l := by
  rw [has_nx] at h
  unfold gt
  cases hx : nx l k with
  | none => rw [hx] at h; cases h
  | some e =>
    rw [hx] at h
    have he : e.1 = k := by simpa using h
    have hm : e ∈ l := List.mem_of_find?_eq_some hx
    simp only [if_pos he]
    subst he
    exact ⟨rfl, hm⟩
theorem gt_no {l : PL} {k : Int} (h : has l k = false) : gt l k = 0 := by
  rw [has_nx] at h
  unfold gt
  cases hx : nx l k with
  | none => rfl
  | some e =>
    rw [hx] at h
    have he : e.1 ≠ k := by simpa using h
    simp only [if_neg he]
theorem srt_uni {l : PL} (hs : Srt l) {k a b : Int} (h1 : (k, a) ∈ l) (h2 : (k, b) ∈ l) : a = b := by
  induction l with
  | nil => cases h1
  | cons x r ih =>
    have hs' := List.pairwise_cons.1 hs
    rcases List.mem_cons.1 h1 with e1 | h1
    · rcases List.mem_cons.1 h2 with e2 | h2
      · rw [← e1] at e2; exact (Prod.mk.inj e2).2.symm
      · have := hs'.1 _ h2; rw [← e1] at this; exact absurd this (by simp)
    · rcases List.mem_cons.1 h2 with e2 | h2
      · have := hs'.1 _ h1; rw [← e2] at this; exact absurd this (by simp)
      · exact ih hs'.2 h1 h2
theorem getZ {i : Nat} {z : TZ} (h : ZOk i z) (hi : i ≤ 400) (k : Int) : ATriple Try.prog gv R0 39 [.ref (0, 0) 0, u32V k] [.abs (trZ z)] (.tup [i64V (gt z.ks k), .bool (has z.ks k)]) [.abs (trZ z)] none := by
  obtain ⟨h1, h2, h3, h4, h5⟩ := h
  obtain ⟨g, c, q1, q2⟩ := get_ts h1 (by omega) z.ks.length k
  have : gt z.ks k = g := by
    cases hh : has z.ks k with
    | true => exact srt_uni h1.srt (gt_mem hh).2 (q1 hh)
    | false => rw [gt_no hh, q2 hh]
  rw [this]
  exact c
theorem nextZ {i : Nat} {z : TZ} (h : ZOk i z) (hi : i ≤ 400) (k : Int) : ATriple Try.prog gv R0 37 [.ref (0, 0) 0, u32V k] [.abs (trZ z)] (nxV (nx z.ks k)) [.abs (trZ z)] none := next_ts h.ts (by have := h.hh; omega) _ k
theorem lenZ (z : TZ) : ATriple Try.prog gv R0 38 [.ref (0, 0) 0] [.abs (trZ z)] (i64V z.ks.length) [.abs (trZ z)] none := len_ok _ _ _ _ _
def TZ.sh (z : TZ) : List (List Nat) := lev z.L z.h [z.root]
theorem shapeZ {i : Nat} {z : TZ} (h : ZOk i z) (hi : i ≤ 400) : ATriple Try.prog gv R0 41 [.ref (0, 0) 0] [.abs (trZ z)] (shV z.sh) [.abs (trZ z)] none := by
  obtain ⟨h1, h2, h3, h4, h5⟩ := h
  obtain ⟨S, hs, _⟩ := h1
  exact shape_ok z.L z.F z.root z.h _ (by omega) hs (by omega)
theorem rest_len : ∀ {s : List (List Nat)} {least keys : Nat}, 1 ≤ least → restB least s keys = true → nextN s keys ≤ keys ∧ ∀ r ∈ s, r.length ≤ keys
  | [], _, keys, _, _ => ⟨Nat.le_refl _, fun r h => by cases h⟩
  | r :: rs, least, keys, hl, h => by
    simp only [restB, Bool.and_eq_true, List.all_eq_true, decide_eq_true_eq, beq_iff_eq] at h
    obtain ⟨⟨h1, h2⟩, h3⟩ := h
    obtain ⟨i1, i2⟩ := rest_len (by omega) h3
    have h4 : r.length ≤ r.sum := by
      clear h2
      induction r with
      | nil => simp
      | cons a t ih =>
        have := ih fun x hx => h1 x (by simp [hx])
        have := (h1 a (by simp)).1
        simp; omega
    have h5 : r.length ≤ keys := by omega
    refine ⟨h5, fun x hx => ?_⟩
    rcases List.mem_cons.1 hx with rfl | hx
    · exact h5
    · exact i2 x hx
theorem shaped_len {s : List (List Nat)} {keys : Nat} (h : shapedB s keys = true) : ∀ r ∈ s, r.length ≤ keys + 1 := by
  cases s with
  | nil => intro r hr; cases hr
  | cons r rs =>
    simp only [shapedB, restB, Bool.and_eq_true, beq_iff_eq] at h
    intro x hx
    rcases List.mem_cons.1 hx with rfl | hx
    · omega
    · have := (rest_len (by omega) h.2.2).2 x hx; omega
theorem shapedZ {i : Nat} {z : TZ} (h : ZOk i z) (hi : i ≤ 400) : PTriple Try.prog gv 40 [shV z.sh, i64V z.ks.length] (.bool true) := by
  obtain ⟨h1, h2, h3, h4, h5⟩ := h
  have hs := h1.shaped
  have c := shaped16 z.sh z.ks.length (by unfold TZ.sh; rw [lev_len]; omega) (fun r hr => by have := shaped_len hs r hr; omega) (by omega)
  have e : shapedB z.sh z.ks.length = true := hs
  rw [e] at c
  exact c
theorem shape_nil  : ATriple Try.prog gv R0 41 [.nilp] [] (.nils) [] (none) := by
  refine ATriple.of_bodyW (C := cxT) Try.func41 rfl (by kernel_rfl) (mixedOf _) rfl (by simp [okA, okC, okN]) (by simp [okOb, okC, okN]) (by simp [okG, okA, okC, okN]) (by simp [okOb, okC, okN]) (fun o ho => by cases ho) 0 [] fun E hE => ?_
  repeat' (conv => whnf); first
   | (refine bcase_of (fun hr => ?_) (fun hr => ?_) <;> (try simp only [decide_eq_true_eq, decide_eq_false_iff_not, beq_iff_eq, beq_eq_false_iff_ne, ne_eq] at hr) <;> try (exfalso; first | omega | (simp at hr; omega) | (simp at hr; done)))
   | (apply And.intro; · first | exact Nat.le_of_ble_eq_true rfl | (show indep _ _ = true; kernel_rfl) | decide | exact ⟨by decide, by decide⟩ | exact ⟨Nat.le_of_ble_eq_true rfl, allOne_of rfl⟩ | exact allOne_of rfl | exact ⟨rfl, rfl⟩)
   | (apply Exists.intro; apply And.intro; · first | exact rfl)
   | fail
  all_goals (conv => whnf)
  all_goals refine ⟨[], ?_⟩
  all_goals (conv => whnf)
  all_goals exact ⟨rfl, rfl⟩
theorem drop_nil (k : Int) : ATriple Try.prog gv R0 33 [.nilp, u32V k] [] (.bool false) [] (none) := by
  have cG := get_nil k
  refine ATriple.of_bodyW (C := cxT) Try.func33 rfl (by kernel_rfl) (mixedOf _) rfl (by simp [okA, okC, okN]) (by simp [okOb, okC, okN]) (by simp [okG, okA, okC, okN]) (by simp [okOb, okC, okN]) (fun o ho => by cases ho) 0 [] fun E hE => ?_
  repeat' (conv => whnf); first
   | (refine bcase_of (fun hr => ?_) (fun hr => ?_) <;> (try simp only [decide_eq_true_eq, decide_eq_false_iff_not, beq_iff_eq, beq_eq_false_iff_ne, ne_eq] at hr) <;> try (exfalso; first | omega | (simp at hr; omega) | (simp at hr; done)))
   | (apply And.intro; · first | exact Nat.le_of_ble_eq_true rfl | (show indep _ _ = true; kernel_rfl) | decide | exact ⟨by decide, by decide⟩ | exact ⟨Nat.le_of_ble_eq_true rfl, allOne_of rfl⟩ | exact allOne_of rfl | exact ⟨rfl, rfl⟩)
   | (apply Exists.intro; apply And.intro; · first | exact rfl)
   | (apply Exists.intro; apply Exists.intro; apply Exists.intro; apply And.intro; · first | (refine ATriple.callN (cG) ?_ ?_ ?_ <;> rfl) | (refine ATriple.callC (cG) ?_ ?_ <;> (intro d; rfl)))
   | (apply Exists.intro; apply And.intro; · exact cG.ptriple)
   | fail
  all_goals (conv => whnf)
  all_goals refine ⟨[], ?_⟩
  all_goals (conv => whnf)
  all_goals exact ⟨rfl, rfl⟩
theorem put_nil (k v : Int) : ATriple Try.prog gv R0 30 [.nilp, u32V k, i64V v] [] (.tup []) [] (none) := by
  refine ATriple.of_bodyW (C := cxT) Try.func30 rfl (by kernel_rfl) (mixedOf _) rfl (by simp [okA, okC, okN]) (by simp [okOb, okC, okN]) (by simp [okG, okA, okC, okN]) (by simp [okOb, okC, okN]) (fun o ho => by cases ho) 0 [] fun E hE => ?_
  repeat' (conv => whnf); first
   | (refine bcase_of (fun hr => ?_) (fun hr => ?_) <;> (try simp only [decide_eq_true_eq, decide_eq_false_iff_not, beq_iff_eq, beq_eq_false_iff_ne, ne_eq] at hr) <;> try (exfalso; first | omega | (simp at hr; omega) | (simp at hr; done)))
   | (apply And.intro; · first | exact Nat.le_of_ble_eq_true rfl | (show indep _ _ = true; kernel_rfl) | decide | exact ⟨by decide, by decide⟩ | exact ⟨Nat.le_of_ble_eq_true rfl, allOne_of rfl⟩ | exact allOne_of rfl | exact ⟨rfl, rfl⟩)
   | (apply Exists.intro; apply And.intro; · first | exact rfl)
   | fail
  all_goals (conv => whnf)
  all_goals refine ⟨[], ?_⟩
  all_goals (conv => whnf)
  all_goals exact ⟨rfl, rfl⟩
end Go.Proofs.Ytbppemcdphgknaa.T
/- Chapter 16: told, none, wakes. -/
namespace Go.Proofs.Ytbppemcdphgknaa.T
open Go Go.Vm
set_option maxRecDepth 100000
set_option maxHeartbeats 40000000
set_option linter.unusedSimpArgs false
set_option linter.unusedVariables false
noncomputable def cxW : Cx DV := cxOf [(29, 1), (30, 1), (33, 1), (35, 1), (37, 1), (38, 1), (39, 1), (41, 1)]
theorem told_ok {i : Nat} {z : TZ} (h : ZOk i z) (hi : i ≤ 400) (k : Int) : ATriple Try.prog gv R0 35 [.ref (0, 0) 0, prV z.ks, u32V k] [.abs (trZ z)] (.bool true) [.abs (trZ z)] (none) := by
  have cG := getZ h hi k
  have cN := nextZ h hi k
  have cL := lenZ z
  have cS := shapeZ h hi
  have cQ := shapedZ h hi
  have hl := h.lk
  have cH := has15 z.ks k (by omega)
  have cX := next16 z.ks k (by omega)
  have pP := pure_P z.ks
  have lP := lenP z.ks
  rw [← lP] at cQ
  have pS := pure_S z.sh
  obtain ⟨r, hr0, hrl, hlt, hend⟩ := rank_idx z.ks k
  rw [hr0] at cH
  have hnx := nx_rank z.ks k r hr0
  have hpure : ∀ v ∈ [V.ref (0, 0) 0, prV z.ks, u32V k], okA 1 v := fun v hv => by
    simp only [List.mem_cons, List.not_mem_nil, or_false] at hv
    rcases hv with rfl | rfl | rfl
    · simp [okA, okC, okN]
    · simp [okA, okC, okN]; exact pP
    · simp [okA, okC, okN]
  generalize z.sh = sh at cS cQ pS
  cases hH : has z.ks k with
  | false =>
    rw [hH] at cG cH
    rw [gt_no hH] at cG
    cases hx : nx z.ks k with
    | none =>
      rw [hx] at cN cX
      refine ATriple.of_bodyW (C := cxW) Try.func35 rfl (by kernel_rfl) (mixedOf _) rfl hpure (by simp [okOb, okC, okN]) (by simp [okG, okA, okC, okN]) (by simp [okOb, okC, okN]) (fun o ho => by cases ho) 0 [] fun E hE => ?_
      repeat' (conv => whnf); first
       | (refine bcase_of (fun hr => ?_) (fun hr => ?_) <;> (try simp only [decide_eq_true_eq, decide_eq_false_iff_not, beq_iff_eq, beq_eq_false_iff_ne, ne_eq, bne_iff_ne, Bool.not_eq_true, ge_iff_le, gt_iff_lt] at hr) <;> try (exfalso; first | omega | exact hr rfl | (simp at hr; done) | (simp at hr; omega)))
       | (apply And.intro; · first | exact Nat.le_of_ble_eq_true rfl | (show indep _ _ = true; kernel_rfl) | decide | exact ⟨by decide, by decide⟩ | exact ⟨Nat.le_of_ble_eq_true rfl, allOne_of rfl⟩ | exact allOne_of rfl | exact ⟨by omega, by omega⟩ | exact ⟨rfl, rfl⟩ | exact pP | exact pS | exact ⟨by omega, by rw [lP]; omega⟩)
       | (apply Exists.intro; apply And.intro; · first | exact rfl | exact cH | exact cX | exact cQ | exact gi)
       | (apply Exists.intro; apply Exists.intro; apply Exists.intro; apply And.intro; · first | (refine ATriple.callN (cG) ?_ ?_ ?_ <;> rfl) | (refine ATriple.callN (cN) ?_ ?_ ?_ <;> rfl) | (refine ATriple.callN (cL) ?_ ?_ ?_ <;> rfl) | (refine ATriple.callN (cS) ?_ ?_ ?_ <;> rfl))
       | fail
      all_goals (conv => whnf)
      all_goals refine ⟨[], ?_⟩
      all_goals (conv => whnf)
      all_goals exact ⟨rfl, rfl⟩
    | some e =>
      rw [hx] at cN cX
      refine ATriple.of_bodyW (C := cxW) Try.func35 rfl (by kernel_rfl) (mixedOf _) rfl hpure (by simp [okOb, okC, okN]) (by simp [okG, okA, okC, okN]) (by simp [okOb, okC, okN]) (fun o ho => by cases ho) 0 [] fun E hE => ?_
      repeat' (conv => whnf); first
       | (refine bcase_of (fun hr => ?_) (fun hr => ?_) <;> (try simp only [decide_eq_true_eq, decide_eq_false_iff_not, beq_iff_eq, beq_eq_false_iff_ne, ne_eq, bne_iff_ne, Bool.not_eq_true, ge_iff_le, gt_iff_lt] at hr) <;> try (exfalso; first | omega | exact hr rfl | (simp at hr; done) | (simp at hr; omega)))
       | (apply And.intro; · first | exact Nat.le_of_ble_eq_true rfl | (show indep _ _ = true; kernel_rfl) | decide | exact ⟨by decide, by decide⟩ | exact ⟨Nat.le_of_ble_eq_true rfl, allOne_of rfl⟩ | exact allOne_of rfl | exact ⟨by omega, by omega⟩ | exact ⟨rfl, rfl⟩ | exact pP | exact pS | exact ⟨by omega, by rw [lP]; omega⟩)
       | (apply Exists.intro; apply And.intro; · first | exact rfl | exact cH | exact cX | exact cQ | exact gi)
       | (apply Exists.intro; apply Exists.intro; apply Exists.intro; apply And.intro; · first | (refine ATriple.callN (cG) ?_ ?_ ?_ <;> rfl) | (refine ATriple.callN (cN) ?_ ?_ ?_ <;> rfl) | (refine ATriple.callN (cL) ?_ ?_ ?_ <;> rfl) | (refine ATriple.callN (cS) ?_ ?_ ?_ <;> rfl))
       | fail
      all_goals (conv => whnf)
      all_goals refine ⟨[], ?_⟩
      all_goals (conv => whnf)
      all_goals exact ⟨rfl, rfl⟩
  | true =>
    have hm := gt_mem hH
    rw [hH] at cG cH
    have hg : z.ks[r]? = some (k, gt z.ks k) := by rw [← hnx]; exact hm.1
    have gi := getP hg
    have hrl2 := (List.getElem?_eq_some_iff.1 hg).1
    cases hx : nx z.ks k with
    | none => rw [hx] at hm; exact absurd hm.1 (by simp)
    | some e =>
      rw [hx] at cN cX
      generalize gt z.ks k = g at cG gi
      refine ATriple.of_bodyW (C := cxW) Try.func35 rfl (by kernel_rfl) (mixedOf _) rfl hpure (by simp [okOb, okC, okN]) (by simp [okG, okA, okC, okN]) (by simp [okOb, okC, okN]) (fun o ho => by cases ho) 0 [] fun E hE => ?_
      repeat' (conv => whnf); first
       | (refine bcase_of (fun hr => ?_) (fun hr => ?_) <;> (try simp only [decide_eq_true_eq, decide_eq_false_iff_not, beq_iff_eq, beq_eq_false_iff_ne, ne_eq, bne_iff_ne, Bool.not_eq_true, ge_iff_le, gt_iff_lt] at hr) <;> try (exfalso; first | omega | exact hr rfl | (simp at hr; done) | (simp at hr; omega)))
       | (apply And.intro; · first | exact Nat.le_of_ble_eq_true rfl | (show indep _ _ = true; kernel_rfl) | decide | exact ⟨by decide, by decide⟩ | exact ⟨Nat.le_of_ble_eq_true rfl, allOne_of rfl⟩ | exact allOne_of rfl | exact ⟨by omega, by omega⟩ | exact ⟨rfl, rfl⟩ | exact pP | exact pS | exact ⟨by omega, by rw [lP]; omega⟩)
       | (apply Exists.intro; apply And.intro; · first | exact rfl | exact cH | exact cX | exact cQ | exact gi)
       | (apply Exists.intro; apply Exists.intro; apply Exists.intro; apply And.intro; · first | (refine ATriple.callN (cG) ?_ ?_ ?_ <;> rfl) | (refine ATriple.callN (cN) ?_ ?_ ?_ <;> rfl) | (refine ATriple.callN (cL) ?_ ?_ ?_ <;> rfl) | (refine ATriple.callN (cS) ?_ ?_ ?_ <;> rfl))
       | fail
      all_goals (conv => whnf)
      all_goals refine ⟨[], ?_⟩
      all_goals (conv => whnf)
      all_goals exact ⟨rfl, rfl⟩
end Go.Proofs.Ytbppemcdphgknaa.T
/- Chapter 16: none, wakes. -/
namespace Go.Proofs.Ytbppemcdphgknaa.T
open Go Go.Vm
set_option maxRecDepth 100000
set_option maxHeartbeats 40000000
set_option linter.unusedSimpArgs false
set_option linter.unusedVariables false
theorem none_ok (k : Int) : PTriple Try.prog gv 36 [u32V k] (.bool true) := by
  refine PTriple.of_body (C := cxW) Try.func36 rfl (by kernel_rfl) (mixedOf _) fun E hE => ?_
  repeat' (conv => whnf); first
   | (refine bcase_of (fun hr => ?_) (fun hr => ?_) <;> (try simp only [decide_eq_true_eq, decide_eq_false_iff_not, beq_iff_eq, beq_eq_false_iff_ne, ne_eq, bne_iff_ne, Bool.not_eq_true, ge_iff_le, gt_iff_lt] at hr) <;> try (exfalso; first | omega | exact hr rfl | (simp at hr; done) | (simp at hr; omega)))
   | (apply And.intro; · first | exact Nat.le_of_ble_eq_true rfl | (show indep _ _ = true; kernel_rfl) | decide | exact ⟨by decide, by decide⟩ | exact ⟨Nat.le_of_ble_eq_true rfl, allOne_of rfl⟩ | exact allOne_of rfl | exact ⟨by omega, by omega⟩ | exact ⟨rfl, rfl⟩)
   | (apply Exists.intro; apply And.intro; · first | exact rfl)
   | (apply Exists.intro; apply Exists.intro; apply Exists.intro; apply And.intro; · first | (refine ATriple.callN (put_nil k 1) ?_ ?_ ?_ <;> rfl) | (refine ATriple.callN (get_nil k) ?_ ?_ ?_ <;> rfl) | (refine ATriple.callN (ntop_nil 0) ?_ ?_ ?_ <;> rfl) | (refine ATriple.callN (drop_nil k) ?_ ?_ ?_ <;> rfl) | (refine ATriple.callN (len_nil) ?_ ?_ ?_ <;> rfl) | (refine ATriple.callN (shape_nil) ?_ ?_ ?_ <;> rfl))
   | fail
  all_goals (conv => whnf)
  all_goals rfl
theorem deep2 {z : TZ} {i : Nat} (h : ZOk i z) (hk : 7 ≤ z.ks.length ∧ z.ks.length ≤ 17) : z.h = 1 := by
  obtain ⟨d1, d2⟩ := h.ts.deep
  rcases Nat.lt_or_ge z.h 2 with h2 | h2
  · rcases Nat.lt_or_ge z.h 1 with h1 | h1
    · have h0 : z.h = 0 := by omega
      rw [h0] at d2
      simp at d2; omega
    · omega
  · have h3 : 3 ^ 2 ≤ 3 ^ z.h := Nat.pow_le_pow_right (by decide) h2
    have := d1 (by omega)
    omega
theorem wakes_ok : PTriple Try.prog gv 28 [] (.bool true) := by
  have c0 := newZ
  have s0 := shapeZ ZOk.new (by omega)
  have e0 : TZ.new.sh = [[0]] := rfl
  rw [e0] at s0
  obtain ⟨z1, c1, o1, e1⟩ := putZ ZOk.new (by omega) 10 1
  obtain ⟨z2, c2, o2, e2⟩ := putZ o1 (by omega) 20 2
  obtain ⟨z3, c3, o3, e3⟩ := putZ o2 (by omega) 30 3
  obtain ⟨z4, c4, o4, e4⟩ := putZ o3 (by omega) 40 4
  obtain ⟨z5, c5, o5, e5⟩ := putZ o4 (by omega) 50 5
  obtain ⟨z6, c6, o6, e6⟩ := putZ o5 (by omega) 60 6
  obtain ⟨z7, c7, o7, e7⟩ := putZ o6 (by omega) 70 7
  have k7 : z7.ks = [(10, 1), (20, 2), (30, 3), (40, 4), (50, 5), (60, 6), (70, 7)] := by rw [e7, e6, e5, e4, e3, e2, e1]; rfl
  have hh := deep2 o7 (by rw [k7]; decide)
  have s7 := shapeZ o7 (by omega)
  have q7 := shapedZ o7 (by omega)
  have l7 : (encS z7.sh).length = 2 := by rw [lenS]; unfold TZ.sh; rw [lev_len, hh]
  have pS := pure_S z7.sh
  have g7 := getZ o7 (by omega) 30
  have n7 := nextZ o7 (by omega) 31
  obtain ⟨z8, c8, o8, e8⟩ := dropZ o7 (by omega) 10
  obtain ⟨z9, c9, o9, e9⟩ := dropZ o8 (by omega) 10
  have k8 : z8.ks = [(20, 2), (30, 3), (40, 4), (50, 5), (60, 6), (70, 7)] := by rw [e8, k7]; rfl
  have k9 : z9.ks = [(20, 2), (30, 3), (40, 4), (50, 5), (60, 6), (70, 7)] := by rw [e9, k8]; rfl
  have l9 := lenZ z9
  rw [k7] at q7 g7 n7 c8
  rw [k8] at c9
  rw [k9] at l9
  have h1 : has [(10, 1), (20, 2), (30, 3), (40, 4), (50, 5), (60, 6), (70, 7)] 30 = true := rfl
  have h2 : gt [(10, 1), (20, 2), (30, 3), (40, 4), (50, 5), (60, 6), (70, 7)] 30 = 3 := rfl
  have h3 : nxV (nx [(10, 1), (20, 2), (30, 3), (40, 4), (50, 5), (60, 6), (70, 7)] 31) = .tup [u32V 40, i64V 4, .bool true] := rfl
  have h4 : has [(10, 1), (20, 2), (30, 3), (40, 4), (50, 5), (60, 6), (70, 7)] 10 = true := rfl
  have h5 : has [(20, 2), (30, 3), (40, 4), (50, 5), (60, 6), (70, 7)] 10 = false := rfl
  rw [h1, h2] at g7
  rw [h3] at n7
  rw [h4] at c8
  rw [h5] at c9
  clear e1 e2 e3 e4 e5 e6 e7 e8 e9 k7 k8 k9 h1 h2 h3 h4 h5 o1 o2 o3 o4 o5 o6 o7 o8 o9 hh
  generalize z7.sh = sh at s7 q7 l7 pS
  generalize hs0 : trZ TZ.new = T0 at c0 s0 c1
  generalize trZ z1 = T1 at *
  generalize trZ z2 = T2 at *
  generalize trZ z3 = T3 at *
  generalize trZ z4 = T4 at *
  generalize trZ z5 = T5 at *
  generalize trZ z6 = T6 at *
  generalize trZ z7 = T7 at *
  generalize trZ z8 = T8 at *
  generalize trZ z9 = T9 at *
  refine PTriple.of_body (C := cxW) Try.func28 rfl (by kernel_rfl) (mixedOf _) fun E hE => ?_
  repeat' (conv => whnf); first
   | (refine bcase_of (fun hr => ?_) (fun hr => ?_) <;> (try simp only [decide_eq_true_eq, decide_eq_false_iff_not, beq_iff_eq, beq_eq_false_iff_ne, ne_eq, bne_iff_ne, Bool.not_eq_true, ge_iff_le, gt_iff_lt] at hr) <;> try (exfalso; first | omega | exact hr rfl | (simp at hr; done) | (simp at hr; omega)))
   | (apply And.intro; · first | exact Nat.le_of_ble_eq_true rfl | (show indep _ _ = true; kernel_rfl) | decide | exact ⟨by decide, by decide⟩ | exact ⟨Nat.le_of_ble_eq_true rfl, allOne_of rfl⟩ | exact allOne_of rfl | exact ⟨by omega, by omega⟩ | exact ⟨rfl, rfl⟩)
   | (apply Exists.intro; apply And.intro; · first | exact rfl)
   | (apply Exists.intro; apply Exists.intro; apply Exists.intro; apply And.intro; · first | (refine ATriple.callN (c0) ?_ ?_ ?_ <;> rfl) | (refine ATriple.callN (s0) ?_ ?_ ?_ <;> rfl))
   | fail
  all_goals (conv => whnf)
  refine VLoop.unroll hE (mixedOf _) ?_
  repeat' (conv => whnf); first
   | (refine bcase_of (fun hr => ?_) (fun hr => ?_) <;> (try simp only [decide_eq_true_eq, decide_eq_false_iff_not, beq_iff_eq, beq_eq_false_iff_ne, ne_eq, bne_iff_ne, Bool.not_eq_true, ge_iff_le, gt_iff_lt] at hr) <;> try (exfalso; first | omega | exact hr rfl | (simp at hr; done) | (simp at hr; omega)))
   | (apply And.intro; · first | exact Nat.le_of_ble_eq_true rfl | (show indep _ _ = true; kernel_rfl) | decide | exact ⟨by decide, by decide⟩ | exact ⟨Nat.le_of_ble_eq_true rfl, allOne_of rfl⟩ | exact allOne_of rfl | exact ⟨by omega, by omega⟩ | exact ⟨rfl, rfl⟩)
   | (apply Exists.intro; apply And.intro; · first | exact rfl)
   | (apply Exists.intro; apply Exists.intro; apply Exists.intro; apply And.intro; · first | (refine ATriple.callN (c1) ?_ ?_ ?_ <;> rfl))
   | fail
  all_goals (conv => whnf)
  refine VLoop.unroll hE (mixedOf _) ?_
  repeat' (conv => whnf); first
   | (refine bcase_of (fun hr => ?_) (fun hr => ?_) <;> (try simp only [decide_eq_true_eq, decide_eq_false_iff_not, beq_iff_eq, beq_eq_false_iff_ne, ne_eq, bne_iff_ne, Bool.not_eq_true, ge_iff_le, gt_iff_lt] at hr) <;> try (exfalso; first | omega | exact hr rfl | (simp at hr; done) | (simp at hr; omega)))
   | (apply And.intro; · first | exact Nat.le_of_ble_eq_true rfl | (show indep _ _ = true; kernel_rfl) | decide | exact ⟨by decide, by decide⟩ | exact ⟨Nat.le_of_ble_eq_true rfl, allOne_of rfl⟩ | exact allOne_of rfl | exact ⟨by omega, by omega⟩ | exact ⟨rfl, rfl⟩)
   | (apply Exists.intro; apply And.intro; · first | exact rfl)
   | (apply Exists.intro; apply Exists.intro; apply Exists.intro; apply And.intro; · first | (refine ATriple.callN (c2) ?_ ?_ ?_ <;> rfl))
   | fail
  all_goals (conv => whnf)
  refine VLoop.unroll hE (mixedOf _) ?_
  repeat' (conv => whnf); first
   | (refine bcase_of (fun hr => ?_) (fun hr => ?_) <;> (try simp only [decide_eq_true_eq, decide_eq_false_iff_not, beq_iff_eq, beq_eq_false_iff_ne, ne_eq, bne_iff_ne, Bool.not_eq_true, ge_iff_le, gt_iff_lt] at hr) <;> try (exfalso; first | omega | exact hr rfl | (simp at hr; done) | (simp at hr; omega)))
   | (apply And.intro; · first | exact Nat.le_of_ble_eq_true rfl | (show indep _ _ = true; kernel_rfl) | decide | exact ⟨by decide, by decide⟩ | exact ⟨Nat.le_of_ble_eq_true rfl, allOne_of rfl⟩ | exact allOne_of rfl | exact ⟨by omega, by omega⟩ | exact ⟨rfl, rfl⟩)
   | (apply Exists.intro; apply And.intro; · first | exact rfl)
   | (apply Exists.intro; apply Exists.intro; apply Exists.intro; apply And.intro; · first | (refine ATriple.callN (c3) ?_ ?_ ?_ <;> rfl))
   | fail
  all_goals (conv => whnf)
  refine VLoop.unroll hE (mixedOf _) ?_
  repeat' (conv => whnf); first
   | (refine bcase_of (fun hr => ?_) (fun hr => ?_) <;> (try simp only [decide_eq_true_eq, decide_eq_false_iff_not, beq_iff_eq, beq_eq_false_iff_ne, ne_eq, bne_iff_ne, Bool.not_eq_true, ge_iff_le, gt_iff_lt] at hr) <;> try (exfalso; first | omega | exact hr rfl | (simp at hr; done) | (simp at hr; omega)))
   | (apply And.intro; · first | exact Nat.le_of_ble_eq_true rfl | (show indep _ _ = true; kernel_rfl) | decide | exact ⟨by decide, by decide⟩ | exact ⟨Nat.le_of_ble_eq_true rfl, allOne_of rfl⟩ | exact allOne_of rfl | exact ⟨by omega, by omega⟩ | exact ⟨rfl, rfl⟩)
   | (apply Exists.intro; apply And.intro; · first | exact rfl)
   | (apply Exists.intro; apply Exists.intro; apply Exists.intro; apply And.intro; · first | (refine ATriple.callN (c4) ?_ ?_ ?_ <;> rfl))
   | fail
  all_goals (conv => whnf)
  refine VLoop.unroll hE (mixedOf _) ?_
  repeat' (conv => whnf); first
   | (refine bcase_of (fun hr => ?_) (fun hr => ?_) <;> (try simp only [decide_eq_true_eq, decide_eq_false_iff_not, beq_iff_eq, beq_eq_false_iff_ne, ne_eq, bne_iff_ne, Bool.not_eq_true, ge_iff_le, gt_iff_lt] at hr) <;> try (exfalso; first | omega | exact hr rfl | (simp at hr; done) | (simp at hr; omega)))
   | (apply And.intro; · first | exact Nat.le_of_ble_eq_true rfl | (show indep _ _ = true; kernel_rfl) | decide | exact ⟨by decide, by decide⟩ | exact ⟨Nat.le_of_ble_eq_true rfl, allOne_of rfl⟩ | exact allOne_of rfl | exact ⟨by omega, by omega⟩ | exact ⟨rfl, rfl⟩)
   | (apply Exists.intro; apply And.intro; · first | exact rfl)
   | (apply Exists.intro; apply Exists.intro; apply Exists.intro; apply And.intro; · first | (refine ATriple.callN (c5) ?_ ?_ ?_ <;> rfl))
   | fail
  all_goals (conv => whnf)
  refine VLoop.unroll hE (mixedOf _) ?_
  repeat' (conv => whnf); first
   | (refine bcase_of (fun hr => ?_) (fun hr => ?_) <;> (try simp only [decide_eq_true_eq, decide_eq_false_iff_not, beq_iff_eq, beq_eq_false_iff_ne, ne_eq, bne_iff_ne, Bool.not_eq_true, ge_iff_le, gt_iff_lt] at hr) <;> try (exfalso; first | omega | exact hr rfl | (simp at hr; done) | (simp at hr; omega)))
   | (apply And.intro; · first | exact Nat.le_of_ble_eq_true rfl | (show indep _ _ = true; kernel_rfl) | decide | exact ⟨by decide, by decide⟩ | exact ⟨Nat.le_of_ble_eq_true rfl, allOne_of rfl⟩ | exact allOne_of rfl | exact ⟨by omega, by omega⟩ | exact ⟨rfl, rfl⟩)
   | (apply Exists.intro; apply And.intro; · first | exact rfl)
   | (apply Exists.intro; apply Exists.intro; apply Exists.intro; apply And.intro; · first | (refine ATriple.callN (c6) ?_ ?_ ?_ <;> rfl))
   | fail
  all_goals (conv => whnf)
  refine VLoop.unroll hE (mixedOf _) ?_
  repeat' (conv => whnf); first
   | (refine bcase_of (fun hr => ?_) (fun hr => ?_) <;> (try simp only [decide_eq_true_eq, decide_eq_false_iff_not, beq_iff_eq, beq_eq_false_iff_ne, ne_eq, bne_iff_ne, Bool.not_eq_true, ge_iff_le, gt_iff_lt] at hr) <;> try (exfalso; first | omega | exact hr rfl | (simp at hr; done) | (simp at hr; omega)))
   | (apply And.intro; · first | exact Nat.le_of_ble_eq_true rfl | (show indep _ _ = true; kernel_rfl) | decide | exact ⟨by decide, by decide⟩ | exact ⟨Nat.le_of_ble_eq_true rfl, allOne_of rfl⟩ | exact allOne_of rfl | exact ⟨by omega, by omega⟩ | exact ⟨rfl, rfl⟩)
   | (apply Exists.intro; apply And.intro; · first | exact rfl)
   | (apply Exists.intro; apply Exists.intro; apply Exists.intro; apply And.intro; · first | (refine ATriple.callN (c7) ?_ ?_ ?_ <;> rfl))
   | fail
  all_goals (conv => whnf)
  refine VLoop.unroll hE (mixedOf _) ?_
  repeat' (conv => whnf); first
   | (refine bcase_of (fun hr => ?_) (fun hr => ?_) <;> (try simp only [decide_eq_true_eq, decide_eq_false_iff_not, beq_iff_eq, beq_eq_false_iff_ne, ne_eq, bne_iff_ne, Bool.not_eq_true, ge_iff_le, gt_iff_lt] at hr) <;> try (exfalso; first | omega | exact hr rfl | (simp at hr; done) | (simp at hr; omega)))
   | (apply And.intro; · first | exact Nat.le_of_ble_eq_true rfl | (show indep _ _ = true; kernel_rfl) | decide | exact ⟨by decide, by decide⟩ | exact ⟨Nat.le_of_ble_eq_true rfl, allOne_of rfl⟩ | exact allOne_of rfl | exact ⟨by omega, by omega⟩ | exact ⟨rfl, rfl⟩ | exact pS | exact ⟨by omega, by omega⟩)
   | (apply Exists.intro; apply And.intro; · first | exact rfl | exact q7)
   | (apply Exists.intro; apply Exists.intro; apply Exists.intro; apply And.intro; · first | (refine ATriple.callN (s7) ?_ ?_ ?_ <;> rfl) | (refine ATriple.callN (g7) ?_ ?_ ?_ <;> rfl) | (refine ATriple.callN (n7) ?_ ?_ ?_ <;> rfl) | (refine ATriple.callN (c8) ?_ ?_ ?_ <;> rfl) | (refine ATriple.callN (c9) ?_ ?_ ?_ <;> rfl) | (refine ATriple.callN (l9) ?_ ?_ ?_ <;> rfl))
   | fail
  all_goals (conv => whnf)
  all_goals rfl
end Go.Proofs.Ytbppemcdphgknaa.T
/- Chapter 16: TreePlays, a turn. -/
namespace Go.Proofs.Ytbppemcdphgknaa.T
open Go Go.Vm
set_option maxRecDepth 100000
set_option maxHeartbeats 40000000
set_option linter.unusedSimpArgs false
set_option linter.unusedVariables false
structure Ac where
  kd : Int
  k : Int
  v : Int
def encA (a : Ac) : List V := [.int .u8 a.kd, u32V a.k, i64V a.v]
abbrev acV (l : List Ac) : V := .lst 3 (l.map encA)
theorem pure_A (l : List Ac) : PureEs (l.map encA) := fun e he v hv => by
  obtain ⟨x, _, rfl⟩ := List.mem_map.1 he
  simp [encA] at hv
  rcases hv with rfl | rfl | rfl <;> exact .int _ _
def encU (r : List Int) : List (List V) := r.map fun x => [u32V x]
abbrev uV (r : List Int) : V := .lst 1 (encU r)
theorem pure_U (r : List Int) : PureEs (encU r) := fun e he v hv => by
  obtain ⟨x, _, rfl⟩ := List.mem_map.1 he
  simp at hv
  subst hv
  exact .int _ _
theorem lenU (r : List Int) : (encU r).length = r.length := by simp [encU]
theorem getU {r : List Int} {i : Nat} {x : Int} (h : r[i]? = some x) : lget (encU r) (i : Int).toNat = some [u32V x] := by
  rw [lget_eq, Int.toNat_natCast, encU, List.getElem?_map, h]; rfl
/-- The body of the first loop. -/
def loopOf : Code → Option Code
  | .loop b => some b
  | .seq a b => match loopOf a with
    | some c => some c
    | none => loopOf b
  | .block _ b => loopOf b
  | _ => none
noncomputable def b7 : Code := ((Try.f7.body.bind loopOf).getD .skip)
def stPl (l : List Ac) (ask : List Int) (z : TZ) (i : Nat) : St DV := mkSt 95 [(0, acV l), (1, uV ask), (5, .ref (23, 1) 0), (6, prV z.ks), (7, i64V i)] [(22, .abs (trZ z))] []
theorem plays_0b {E : Env} (hE : EOk cxW E) {K : Exit → St DV → Prop} (l : List Ac) (ask : List Int) (hl : l.length ≤ 150) (i : Nat) (z : TZ) (hz : ZOk i z) (ih : ∀ z', ZOk (i + 1) z' → VLoop cxW E b7 (stPl l ask z' (i + 1)) K) (hgo : i < l.length) {a : Ac} (ha : l[i]? = some a) (hm : a.kd ≥ 64) (hkd : a.kd.tmod 4 = 0) : VLoop cxW E b7 (stPl l ask z i) K := by
  have pA := pure_A l
  have pU := pure_U ask
  have lA : (l.map encA).length = l.length := by simp
  have hw : IntKind.i64.wrap ((i : Int) + 1) = ((i + 1 : Nat) : Int) := wrap64 (by omega) (by omega)
  have ga : lget (l.map encA) (i : Int).toNat = some (encA a) := by rw [lget_eq, Int.toNat_natCast, List.getElem?_map, ha]; rfl
  have hzk := hz.lk
  have pZ := pure_P z.ks
  obtain ⟨z2, cP, o2, e2⟩ := putZ hz (by omega) (a.k.tmod 40) a.v
  have cL := lay15 z.ks (a.k.tmod 40) a.v (by omega)
  have cT := told_ok o2 (by omega) (a.k.tmod 40)
  have hi := ih z2 o2
  unfold stPl at hi
  rw [e2] at cT hi
  have pZ2 := pure_P (lay z.ks (a.k.tmod 40) a.v)
  refine VLoop.unroll hE (mixedOf _) ?_
  repeat' (conv => whnf); first
   | (refine bcase_of (fun hr => ?_) (fun hr => ?_) <;> (try simp only [decide_eq_true_eq, decide_eq_false_iff_not, beq_iff_eq, beq_eq_false_iff_ne, ne_eq, bne_iff_ne, Bool.not_eq_true, ge_iff_le, gt_iff_lt] at hr) <;> try (exfalso; first | omega | exact hr rfl | (simp at hr; done) | (simp [hkd] at hr; done) | (simp at hr; omega)))
   | (apply And.intro; · first | exact Nat.le_of_ble_eq_true rfl | (show indep _ _ = true; kernel_rfl) | decide | exact ⟨by decide, by decide⟩ | exact ⟨Nat.le_of_ble_eq_true rfl, allOne_of rfl⟩ | exact allOne_of rfl | exact ⟨by omega, by omega⟩ | exact ⟨rfl, rfl⟩ | exact pA | exact pU | exact pZ | exact pZ2 | exact ⟨by omega, by rw [lA]; omega⟩)
   | (apply Exists.intro; apply And.intro; · first | exact rfl | exact cL | exact ga)
   | (apply Exists.intro; apply Exists.intro; apply Exists.intro; apply And.intro; · first | (refine ATriple.callN (cP) ?_ ?_ ?_ <;> rfl) | (refine ATriple.callN (cT) ?_ ?_ ?_ <;> rfl))
   | fail
  all_goals (conv => whnf)
  refine VLoop.norm [0, 1, 5, 6, 7] [22] ?_
  repeat' (conv => whnf); first
   | (apply And.intro; · first | exact Nat.le_of_ble_eq_true rfl | (show indep _ _ = true; kernel_rfl) | decide | exact pA | exact pU | exact pZ2)
   | (apply Exists.intro; apply And.intro; · first | exact rfl)
   | fail
  try rw [hw]
  exact hi
theorem plays_0s {E : Env} (hE : EOk cxW E) {K : Exit → St DV → Prop} (l : List Ac) (ask : List Int) (hl : l.length ≤ 150) (i : Nat) (z : TZ) (hz : ZOk i z) (ih : ∀ z', ZOk (i + 1) z' → VLoop cxW E b7 (stPl l ask z' (i + 1)) K) (hgo : i < l.length) {a : Ac} (ha : l[i]? = some a) (hm : ¬ a.kd ≥ 64) (hkd : a.kd.tmod 4 = 0) : VLoop cxW E b7 (stPl l ask z i) K := by
  have pA := pure_A l
  have pU := pure_U ask
  have lA : (l.map encA).length = l.length := by simp
  have hw : IntKind.i64.wrap ((i : Int) + 1) = ((i + 1 : Nat) : Int) := wrap64 (by omega) (by omega)
  have ga : lget (l.map encA) (i : Int).toNat = some (encA a) := by rw [lget_eq, Int.toNat_natCast, List.getElem?_map, ha]; rfl
  have hzk := hz.lk
  have pZ := pure_P z.ks
  obtain ⟨z2, cP, o2, e2⟩ := putZ hz (by omega) a.k a.v
  have cL := lay15 z.ks a.k a.v (by omega)
  have cT := told_ok o2 (by omega) a.k
  have hi := ih z2 o2
  unfold stPl at hi
  rw [e2] at cT hi
  have pZ2 := pure_P (lay z.ks a.k a.v)
  refine VLoop.unroll hE (mixedOf _) ?_
  repeat' (conv => whnf); first
   | (refine bcase_of (fun hr => ?_) (fun hr => ?_) <;> (try simp only [decide_eq_true_eq, decide_eq_false_iff_not, beq_iff_eq, beq_eq_false_iff_ne, ne_eq, bne_iff_ne, Bool.not_eq_true, ge_iff_le, gt_iff_lt] at hr) <;> try (exfalso; first | omega | exact hr rfl | (simp at hr; done) | (simp [hkd] at hr; done) | (simp at hr; omega)))
   | (apply And.intro; · first | exact Nat.le_of_ble_eq_true rfl | (show indep _ _ = true; kernel_rfl) | decide | exact ⟨by decide, by decide⟩ | exact ⟨Nat.le_of_ble_eq_true rfl, allOne_of rfl⟩ | exact allOne_of rfl | exact ⟨by omega, by omega⟩ | exact ⟨rfl, rfl⟩ | exact pA | exact pU | exact pZ | exact pZ2 | exact ⟨by omega, by rw [lA]; omega⟩)
   | (apply Exists.intro; apply And.intro; · first | exact rfl | exact cL | exact ga)
   | (apply Exists.intro; apply Exists.intro; apply Exists.intro; apply And.intro; · first | (refine ATriple.callN (cP) ?_ ?_ ?_ <;> rfl) | (refine ATriple.callN (cT) ?_ ?_ ?_ <;> rfl))
   | fail
  all_goals (conv => whnf)
  refine VLoop.norm [0, 1, 5, 6, 7] [22] ?_
  repeat' (conv => whnf); first
   | (apply And.intro; · first | exact Nat.le_of_ble_eq_true rfl | (show indep _ _ = true; kernel_rfl) | decide | exact pA | exact pU | exact pZ2)
   | (apply Exists.intro; apply And.intro; · first | exact rfl)
   | fail
  try rw [hw]
  exact hi
theorem plays_1b {E : Env} (hE : EOk cxW E) {K : Exit → St DV → Prop} (l : List Ac) (ask : List Int) (hl : l.length ≤ 150) (i : Nat) (z : TZ) (hz : ZOk i z) (ih : ∀ z', ZOk (i + 1) z' → VLoop cxW E b7 (stPl l ask z' (i + 1)) K) (hgo : i < l.length) {a : Ac} (ha : l[i]? = some a) (hm : a.kd ≥ 64) (hkd : a.kd.tmod 4 = 1) : VLoop cxW E b7 (stPl l ask z i) K := by
  have pA := pure_A l
  have pU := pure_U ask
  have lA : (l.map encA).length = l.length := by simp
  have hw : IntKind.i64.wrap ((i : Int) + 1) = ((i + 1 : Nat) : Int) := wrap64 (by omega) (by omega)
  have ga : lget (l.map encA) (i : Int).toNat = some (encA a) := by rw [lget_eq, Int.toNat_natCast, List.getElem?_map, ha]; rfl
  have hzk := hz.lk
  have pZ := pure_P z.ks
  obtain ⟨z2, cP, o2, e2⟩ := putZ hz (by omega) (a.k.tmod 40) a.v
  have cL := lay15 z.ks (a.k.tmod 40) a.v (by omega)
  have cT := told_ok o2 (by omega) (a.k.tmod 40)
  have hi := ih z2 o2
  unfold stPl at hi
  rw [e2] at cT hi
  have pZ2 := pure_P (lay z.ks (a.k.tmod 40) a.v)
  refine VLoop.unroll hE (mixedOf _) ?_
  repeat' (conv => whnf); first
   | (refine bcase_of (fun hr => ?_) (fun hr => ?_) <;> (try simp only [decide_eq_true_eq, decide_eq_false_iff_not, beq_iff_eq, beq_eq_false_iff_ne, ne_eq, bne_iff_ne, Bool.not_eq_true, ge_iff_le, gt_iff_lt] at hr) <;> try (exfalso; first | omega | exact hr rfl | (simp at hr; done) | (simp [hkd] at hr; done) | (simp at hr; omega)))
   | (apply And.intro; · first | exact Nat.le_of_ble_eq_true rfl | (show indep _ _ = true; kernel_rfl) | decide | exact ⟨by decide, by decide⟩ | exact ⟨Nat.le_of_ble_eq_true rfl, allOne_of rfl⟩ | exact allOne_of rfl | exact ⟨by omega, by omega⟩ | exact ⟨rfl, rfl⟩ | exact pA | exact pU | exact pZ | exact pZ2 | exact ⟨by omega, by rw [lA]; omega⟩)
   | (apply Exists.intro; apply And.intro; · first | exact rfl | exact cL | exact ga)
   | (apply Exists.intro; apply Exists.intro; apply Exists.intro; apply And.intro; · first | (refine ATriple.callN (cP) ?_ ?_ ?_ <;> rfl) | (refine ATriple.callN (cT) ?_ ?_ ?_ <;> rfl))
   | fail
  all_goals (conv => whnf)
  refine VLoop.norm [0, 1, 5, 6, 7] [22] ?_
  repeat' (conv => whnf); first
   | (apply And.intro; · first | exact Nat.le_of_ble_eq_true rfl | (show indep _ _ = true; kernel_rfl) | decide | exact pA | exact pU | exact pZ2)
   | (apply Exists.intro; apply And.intro; · first | exact rfl)
   | fail
  try rw [hw]
  exact hi
theorem plays_1s {E : Env} (hE : EOk cxW E) {K : Exit → St DV → Prop} (l : List Ac) (ask : List Int) (hl : l.length ≤ 150) (i : Nat) (z : TZ) (hz : ZOk i z) (ih : ∀ z', ZOk (i + 1) z' → VLoop cxW E b7 (stPl l ask z' (i + 1)) K) (hgo : i < l.length) {a : Ac} (ha : l[i]? = some a) (hm : ¬ a.kd ≥ 64) (hkd : a.kd.tmod 4 = 1) : VLoop cxW E b7 (stPl l ask z i) K := by
  have pA := pure_A l
  have pU := pure_U ask
  have lA : (l.map encA).length = l.length := by simp
  have hw : IntKind.i64.wrap ((i : Int) + 1) = ((i + 1 : Nat) : Int) := wrap64 (by omega) (by omega)
  have ga : lget (l.map encA) (i : Int).toNat = some (encA a) := by rw [lget_eq, Int.toNat_natCast, List.getElem?_map, ha]; rfl
  have hzk := hz.lk
  have pZ := pure_P z.ks
  obtain ⟨z2, cP, o2, e2⟩ := putZ hz (by omega) a.k a.v
  have cL := lay15 z.ks a.k a.v (by omega)
  have cT := told_ok o2 (by omega) a.k
  have hi := ih z2 o2
  unfold stPl at hi
  rw [e2] at cT hi
  have pZ2 := pure_P (lay z.ks a.k a.v)
  refine VLoop.unroll hE (mixedOf _) ?_
  repeat' (conv => whnf); first
   | (refine bcase_of (fun hr => ?_) (fun hr => ?_) <;> (try simp only [decide_eq_true_eq, decide_eq_false_iff_not, beq_iff_eq, beq_eq_false_iff_ne, ne_eq, bne_iff_ne, Bool.not_eq_true, ge_iff_le, gt_iff_lt] at hr) <;> try (exfalso; first | omega | exact hr rfl | (simp at hr; done) | (simp [hkd] at hr; done) | (simp at hr; omega)))
   | (apply And.intro; · first | exact Nat.le_of_ble_eq_true rfl | (show indep _ _ = true; kernel_rfl) | decide | exact ⟨by decide, by decide⟩ | exact ⟨Nat.le_of_ble_eq_true rfl, allOne_of rfl⟩ | exact allOne_of rfl | exact ⟨by omega, by omega⟩ | exact ⟨rfl, rfl⟩ | exact pA | exact pU | exact pZ | exact pZ2 | exact ⟨by omega, by rw [lA]; omega⟩)
   | (apply Exists.intro; apply And.intro; · first | exact rfl | exact cL | exact ga)
   | (apply Exists.intro; apply Exists.intro; apply Exists.intro; apply And.intro; · first | (refine ATriple.callN (cP) ?_ ?_ ?_ <;> rfl) | (refine ATriple.callN (cT) ?_ ?_ ?_ <;> rfl))
   | fail
  all_goals (conv => whnf)
  refine VLoop.norm [0, 1, 5, 6, 7] [22] ?_
  repeat' (conv => whnf); first
   | (apply And.intro; · first | exact Nat.le_of_ble_eq_true rfl | (show indep _ _ = true; kernel_rfl) | decide | exact pA | exact pU | exact pZ2)
   | (apply Exists.intro; apply And.intro; · first | exact rfl)
   | fail
  try rw [hw]
  exact hi
theorem plays_2b {E : Env} (hE : EOk cxW E) {K : Exit → St DV → Prop} (l : List Ac) (ask : List Int) (hl : l.length ≤ 150) (i : Nat) (z : TZ) (hz : ZOk i z) (ih : ∀ z', ZOk (i + 1) z' → VLoop cxW E b7 (stPl l ask z' (i + 1)) K) (hgo : i < l.length) {a : Ac} (ha : l[i]? = some a) (hm : a.kd ≥ 64) (hkd : a.kd.tmod 4 = 2) : VLoop cxW E b7 (stPl l ask z i) K := by
  have pA := pure_A l
  have pU := pure_U ask
  have lA : (l.map encA).length = l.length := by simp
  have hw : IntKind.i64.wrap ((i : Int) + 1) = ((i + 1 : Nat) : Int) := wrap64 (by omega) (by omega)
  have ga : lget (l.map encA) (i : Int).toNat = some (encA a) := by rw [lget_eq, Int.toNat_natCast, List.getElem?_map, ha]; rfl
  have hzk := hz.lk
  have pZ := pure_P z.ks
  obtain ⟨z2, cP, o2, e2⟩ := dropZ hz (by omega) (a.k.tmod 40)
  have cH := has15 z.ks (a.k.tmod 40) (by omega)
  have cL := out15 z.ks (a.k.tmod 40) (by omega)
  have cT := told_ok o2 (by omega) (a.k.tmod 40)
  have hi := ih z2 o2
  unfold stPl at hi
  rw [e2] at cT hi
  have pZ2 := pure_P (out z.ks (a.k.tmod 40))
  generalize has z.ks (a.k.tmod 40) = H at cP cH
  generalize rank z.ks (a.k.tmod 40) = R at cH
  cases H with
  | true =>
    refine VLoop.unroll hE (mixedOf _) ?_
    repeat' (conv => whnf); first
     | (refine bcase_of (fun hr => ?_) (fun hr => ?_) <;> (try simp only [decide_eq_true_eq, decide_eq_false_iff_not, beq_iff_eq, beq_eq_false_iff_ne, ne_eq, bne_iff_ne, Bool.not_eq_true, ge_iff_le, gt_iff_lt] at hr) <;> try (exfalso; first | omega | exact hr rfl | (simp at hr; done) | (simp [hkd] at hr; done) | (simp at hr; omega)))
     | (apply And.intro; · first | exact Nat.le_of_ble_eq_true rfl | (show indep _ _ = true; kernel_rfl) | decide | exact ⟨by decide, by decide⟩ | exact ⟨Nat.le_of_ble_eq_true rfl, allOne_of rfl⟩ | exact allOne_of rfl | exact ⟨by omega, by omega⟩ | exact ⟨rfl, rfl⟩ | exact pA | exact pU | exact pZ | exact pZ2 | exact ⟨by omega, by rw [lA]; omega⟩)
     | (apply Exists.intro; apply And.intro; · first | exact rfl | exact cH | exact cL | exact ga)
     | (apply Exists.intro; apply Exists.intro; apply Exists.intro; apply And.intro; · first | (refine ATriple.callN (cP) ?_ ?_ ?_ <;> rfl) | (refine ATriple.callN (cT) ?_ ?_ ?_ <;> rfl))
     | fail
    all_goals (conv => whnf)
    refine VLoop.norm [0, 1, 5, 6, 7] [22] ?_
    repeat' (conv => whnf); first
     | (apply And.intro; · first | exact Nat.le_of_ble_eq_true rfl | (show indep _ _ = true; kernel_rfl) | decide | exact pA | exact pU | exact pZ2)
     | (apply Exists.intro; apply And.intro; · first | exact rfl)
     | fail
    try rw [hw]
    exact hi
  | false =>
    refine VLoop.unroll hE (mixedOf _) ?_
    repeat' (conv => whnf); first
     | (refine bcase_of (fun hr => ?_) (fun hr => ?_) <;> (try simp only [decide_eq_true_eq, decide_eq_false_iff_not, beq_iff_eq, beq_eq_false_iff_ne, ne_eq, bne_iff_ne, Bool.not_eq_true, ge_iff_le, gt_iff_lt] at hr) <;> try (exfalso; first | omega | exact hr rfl | (simp at hr; done) | (simp [hkd] at hr; done) | (simp at hr; omega)))
     | (apply And.intro; · first | exact Nat.le_of_ble_eq_true rfl | (show indep _ _ = true; kernel_rfl) | decide | exact ⟨by decide, by decide⟩ | exact ⟨Nat.le_of_ble_eq_true rfl, allOne_of rfl⟩ | exact allOne_of rfl | exact ⟨by omega, by omega⟩ | exact ⟨rfl, rfl⟩ | exact pA | exact pU | exact pZ | exact pZ2 | exact ⟨by omega, by rw [lA]; omega⟩)
     | (apply Exists.intro; apply And.intro; · first | exact rfl | exact cH | exact cL | exact ga)
     | (apply Exists.intro; apply Exists.intro; apply Exists.intro; apply And.intro; · first | (refine ATriple.callN (cP) ?_ ?_ ?_ <;> rfl) | (refine ATriple.callN (cT) ?_ ?_ ?_ <;> rfl))
     | fail
    all_goals (conv => whnf)
    refine VLoop.norm [0, 1, 5, 6, 7] [22] ?_
    repeat' (conv => whnf); first
     | (apply And.intro; · first | exact Nat.le_of_ble_eq_true rfl | (show indep _ _ = true; kernel_rfl) | decide | exact pA | exact pU | exact pZ2)
     | (apply Exists.intro; apply And.intro; · first | exact rfl)
     | fail
    try rw [hw]
    exact hi
theorem plays_2s {E : Env} (hE : EOk cxW E) {K : Exit → St DV → Prop} (l : List Ac) (ask : List Int) (hl : l.length ≤ 150) (i : Nat) (z : TZ) (hz : ZOk i z) (ih : ∀ z', ZOk (i + 1) z' → VLoop cxW E b7 (stPl l ask z' (i + 1)) K) (hgo : i < l.length) {a : Ac} (ha : l[i]? = some a) (hm : ¬ a.kd ≥ 64) (hkd : a.kd.tmod 4 = 2) : VLoop cxW E b7 (stPl l ask z i) K := by
  have pA := pure_A l
  have pU := pure_U ask
  have lA : (l.map encA).length = l.length := by simp
  have hw : IntKind.i64.wrap ((i : Int) + 1) = ((i + 1 : Nat) : Int) := wrap64 (by omega) (by omega)
  have ga : lget (l.map encA) (i : Int).toNat = some (encA a) := by rw [lget_eq, Int.toNat_natCast, List.getElem?_map, ha]; rfl
  have hzk := hz.lk
  have pZ := pure_P z.ks
  obtain ⟨z2, cP, o2, e2⟩ := dropZ hz (by omega) a.k
  have cH := has15 z.ks a.k (by omega)
  have cL := out15 z.ks a.k (by omega)
  have cT := told_ok o2 (by omega) a.k
  have hi := ih z2 o2
  unfold stPl at hi
  rw [e2] at cT hi
  have pZ2 := pure_P (out z.ks a.k)
  generalize has z.ks a.k = H at cP cH
  generalize rank z.ks a.k = R at cH
  cases H with
  | true =>
    refine VLoop.unroll hE (mixedOf _) ?_
    repeat' (conv => whnf); first
     | (refine bcase_of (fun hr => ?_) (fun hr => ?_) <;> (try simp only [decide_eq_true_eq, decide_eq_false_iff_not, beq_iff_eq, beq_eq_false_iff_ne, ne_eq, bne_iff_ne, Bool.not_eq_true, ge_iff_le, gt_iff_lt] at hr) <;> try (exfalso; first | omega | exact hr rfl | (simp at hr; done) | (simp [hkd] at hr; done) | (simp at hr; omega)))
     | (apply And.intro; · first | exact Nat.le_of_ble_eq_true rfl | (show indep _ _ = true; kernel_rfl) | decide | exact ⟨by decide, by decide⟩ | exact ⟨Nat.le_of_ble_eq_true rfl, allOne_of rfl⟩ | exact allOne_of rfl | exact ⟨by omega, by omega⟩ | exact ⟨rfl, rfl⟩ | exact pA | exact pU | exact pZ | exact pZ2 | exact ⟨by omega, by rw [lA]; omega⟩)
     | (apply Exists.intro; apply And.intro; · first | exact rfl | exact cH | exact cL | exact ga)
     | (apply Exists.intro; apply Exists.intro; apply Exists.intro; apply And.intro; · first | (refine ATriple.callN (cP) ?_ ?_ ?_ <;> rfl) | (refine ATriple.callN (cT) ?_ ?_ ?_ <;> rfl))
     | fail
    all_goals (conv => whnf)
    refine VLoop.norm [0, 1, 5, 6, 7] [22] ?_
    repeat' (conv => whnf); first
     | (apply And.intro; · first | exact Nat.le_of_ble_eq_true rfl | (show indep _ _ = true; kernel_rfl) | decide | exact pA | exact pU | exact pZ2)
     | (apply Exists.intro; apply And.intro; · first | exact rfl)
     | fail
    try rw [hw]
    exact hi
  | false =>
    refine VLoop.unroll hE (mixedOf _) ?_
    repeat' (conv => whnf); first
     | (refine bcase_of (fun hr => ?_) (fun hr => ?_) <;> (try simp only [decide_eq_true_eq, decide_eq_false_iff_not, beq_iff_eq, beq_eq_false_iff_ne, ne_eq, bne_iff_ne, Bool.not_eq_true, ge_iff_le, gt_iff_lt] at hr) <;> try (exfalso; first | omega | exact hr rfl | (simp at hr; done) | (simp [hkd] at hr; done) | (simp at hr; omega)))
     | (apply And.intro; · first | exact Nat.le_of_ble_eq_true rfl | (show indep _ _ = true; kernel_rfl) | decide | exact ⟨by decide, by decide⟩ | exact ⟨Nat.le_of_ble_eq_true rfl, allOne_of rfl⟩ | exact allOne_of rfl | exact ⟨by omega, by omega⟩ | exact ⟨rfl, rfl⟩ | exact pA | exact pU | exact pZ | exact pZ2 | exact ⟨by omega, by rw [lA]; omega⟩)
     | (apply Exists.intro; apply And.intro; · first | exact rfl | exact cH | exact cL | exact ga)
     | (apply Exists.intro; apply Exists.intro; apply Exists.intro; apply And.intro; · first | (refine ATriple.callN (cP) ?_ ?_ ?_ <;> rfl) | (refine ATriple.callN (cT) ?_ ?_ ?_ <;> rfl))
     | fail
    all_goals (conv => whnf)
    refine VLoop.norm [0, 1, 5, 6, 7] [22] ?_
    repeat' (conv => whnf); first
     | (apply And.intro; · first | exact Nat.le_of_ble_eq_true rfl | (show indep _ _ = true; kernel_rfl) | decide | exact pA | exact pU | exact pZ2)
     | (apply Exists.intro; apply And.intro; · first | exact rfl)
     | fail
    try rw [hw]
    exact hi
theorem plays_3b {E : Env} (hE : EOk cxW E) {K : Exit → St DV → Prop} (l : List Ac) (ask : List Int) (hl : l.length ≤ 150) (i : Nat) (z : TZ) (hz : ZOk i z) (ih : ∀ z', ZOk (i + 1) z' → VLoop cxW E b7 (stPl l ask z' (i + 1)) K) (hgo : i < l.length) {a : Ac} (ha : l[i]? = some a) (hm : a.kd ≥ 64) (hkd : a.kd.tmod 4 = 3) : VLoop cxW E b7 (stPl l ask z i) K := by
  have pA := pure_A l
  have pU := pure_U ask
  have lA : (l.map encA).length = l.length := by simp
  have hw : IntKind.i64.wrap ((i : Int) + 1) = ((i + 1 : Nat) : Int) := wrap64 (by omega) (by omega)
  have ga : lget (l.map encA) (i : Int).toNat = some (encA a) := by rw [lget_eq, Int.toNat_natCast, List.getElem?_map, ha]; rfl
  have hzk := hz.lk
  have pZ := pure_P z.ks
  have hz2 := hz.le (Nat.le_succ i)
  have cT := told_ok hz2 (by omega) (a.k.tmod 40)
  have hi := ih z hz2
  unfold stPl at hi
  have pZ2 := pZ
  refine VLoop.unroll hE (mixedOf _) ?_
  repeat' (conv => whnf); first
   | (refine bcase_of (fun hr => ?_) (fun hr => ?_) <;> (try simp only [decide_eq_true_eq, decide_eq_false_iff_not, beq_iff_eq, beq_eq_false_iff_ne, ne_eq, bne_iff_ne, Bool.not_eq_true, ge_iff_le, gt_iff_lt] at hr) <;> try (exfalso; first | omega | exact hr rfl | (simp at hr; done) | (simp [hkd] at hr; done) | (simp at hr; omega)))
   | (apply And.intro; · first | exact Nat.le_of_ble_eq_true rfl | (show indep _ _ = true; kernel_rfl) | decide | exact ⟨by decide, by decide⟩ | exact ⟨Nat.le_of_ble_eq_true rfl, allOne_of rfl⟩ | exact allOne_of rfl | exact ⟨by omega, by omega⟩ | exact ⟨rfl, rfl⟩ | exact pA | exact pU | exact pZ | exact pZ2 | exact ⟨by omega, by rw [lA]; omega⟩)
   | (apply Exists.intro; apply And.intro; · first | exact rfl | exact ga)
   | (apply Exists.intro; apply Exists.intro; apply Exists.intro; apply And.intro; · first | (refine ATriple.callN (cT) ?_ ?_ ?_ <;> rfl))
   | fail
  all_goals (conv => whnf)
  refine VLoop.norm [0, 1, 5, 6, 7] [22] ?_
  repeat' (conv => whnf); first
   | (apply And.intro; · first | exact Nat.le_of_ble_eq_true rfl | (show indep _ _ = true; kernel_rfl) | decide | exact pA | exact pU | exact pZ2)
   | (apply Exists.intro; apply And.intro; · first | exact rfl)
   | fail
  try rw [hw]
  exact hi
theorem plays_3s {E : Env} (hE : EOk cxW E) {K : Exit → St DV → Prop} (l : List Ac) (ask : List Int) (hl : l.length ≤ 150) (i : Nat) (z : TZ) (hz : ZOk i z) (ih : ∀ z', ZOk (i + 1) z' → VLoop cxW E b7 (stPl l ask z' (i + 1)) K) (hgo : i < l.length) {a : Ac} (ha : l[i]? = some a) (hm : ¬ a.kd ≥ 64) (hkd : a.kd.tmod 4 = 3) : VLoop cxW E b7 (stPl l ask z i) K := by
  have pA := pure_A l
  have pU := pure_U ask
  have lA : (l.map encA).length = l.length := by simp
  have hw : IntKind.i64.wrap ((i : Int) + 1) = ((i + 1 : Nat) : Int) := wrap64 (by omega) (by omega)
  have ga : lget (l.map encA) (i : Int).toNat = some (encA a) := by rw [lget_eq, Int.toNat_natCast, List.getElem?_map, ha]; rfl
  have hzk := hz.lk
  have pZ := pure_P z.ks
  have hz2 := hz.le (Nat.le_succ i)
  have cT := told_ok hz2 (by omega) a.k
  have hi := ih z hz2
  unfold stPl at hi
  have pZ2 := pZ
  refine VLoop.unroll hE (mixedOf _) ?_
  repeat' (conv => whnf); first
   | (refine bcase_of (fun hr => ?_) (fun hr => ?_) <;> (try simp only [decide_eq_true_eq, decide_eq_false_iff_not, beq_iff_eq, beq_eq_false_iff_ne, ne_eq, bne_iff_ne, Bool.not_eq_true, ge_iff_le, gt_iff_lt] at hr) <;> try (exfalso; first | omega | exact hr rfl | (simp at hr; done) | (simp [hkd] at hr; done) | (simp at hr; omega)))
   | (apply And.intro; · first | exact Nat.le_of_ble_eq_true rfl | (show indep _ _ = true; kernel_rfl) | decide | exact ⟨by decide, by decide⟩ | exact ⟨Nat.le_of_ble_eq_true rfl, allOne_of rfl⟩ | exact allOne_of rfl | exact ⟨by omega, by omega⟩ | exact ⟨rfl, rfl⟩ | exact pA | exact pU | exact pZ | exact pZ2 | exact ⟨by omega, by rw [lA]; omega⟩)
   | (apply Exists.intro; apply And.intro; · first | exact rfl | exact ga)
   | (apply Exists.intro; apply Exists.intro; apply Exists.intro; apply And.intro; · first | (refine ATriple.callN (cT) ?_ ?_ ?_ <;> rfl))
   | fail
  all_goals (conv => whnf)
  refine VLoop.norm [0, 1, 5, 6, 7] [22] ?_
  repeat' (conv => whnf); first
   | (apply And.intro; · first | exact Nat.le_of_ble_eq_true rfl | (show indep _ _ = true; kernel_rfl) | decide | exact pA | exact pU | exact pZ2)
   | (apply Exists.intro; apply And.intro; · first | exact rfl)
   | fail
  try rw [hw]
  exact hi
end Go.Proofs.Ytbppemcdphgknaa.T
/- Chapter 16: TreePlays. -/
namespace Go.Proofs.Ytbppemcdphgknaa.T
open Go Go.Vm
set_option maxRecDepth 100000
set_option maxHeartbeats 40000000
set_option linter.unusedSimpArgs false
set_option linter.unusedVariables false
def stPa (l : List Ac) (ask : List Int) (z : TZ) (j : Nat) : St DV := mkSt 95 [(0, acV l), (1, uV ask), (5, .ref (23, 1) 0), (6, prV z.ks), (12, i64V j)] [(22, .abs (trZ z))] []
theorem plays16_ok (l : List Ac) (ask : List Int) (hk : ∀ a ∈ l, 0 ≤ a.kd ∧ a.kd ≤ 255) : PTriple Try.prog gv 7 [acV l, uV ask] (.bool true) := by
  have pA := pure_A l
  have pU := pure_U ask
  have lA : (l.map encA).length = l.length := by simp
  have lU := lenU ask
  by_cases hlen : l.length ≤ 150 ∧ ask.length ≤ 40
  case neg =>
    refine PTriple.of_body (C := cxW) Try.func7 rfl (by kernel_rfl) (mixedOf _) fun E hE => ?_
    repeat' (conv => whnf); first
     | (refine bcase_of (fun hr => ?_) (fun hr => ?_) <;> (try simp only [decide_eq_true_eq, decide_eq_false_iff_not, beq_iff_eq, beq_eq_false_iff_ne, ne_eq, bne_iff_ne, Bool.not_eq_true, ge_iff_le, gt_iff_lt] at hr) <;> try (exfalso; first | omega | exact hr rfl | (simp at hr; done) | (simp at hr; omega)))
     | (apply And.intro; · first | exact Nat.le_of_ble_eq_true rfl | (show indep _ _ = true; kernel_rfl) | decide | exact ⟨by decide, by decide⟩ | exact ⟨Nat.le_of_ble_eq_true rfl, allOne_of rfl⟩ | exact allOne_of rfl | exact ⟨by omega, by omega⟩ | exact ⟨rfl, rfl⟩)
     | (apply Exists.intro; apply And.intro; · first | exact rfl | exact wakes_ok)
     | fail
    all_goals (conv => whnf)
    all_goals rfl
  case pos =>
    obtain ⟨hl, hq⟩ := hlen
    have c0 := newZ
    refine PTriple.of_body (C := cxW) Try.func7 rfl (by kernel_rfl) (mixedOf _) fun E hE => ?_
    repeat' (conv => whnf); first
     | (refine bcase_of (fun hr => ?_) (fun hr => ?_) <;> (try simp only [decide_eq_true_eq, decide_eq_false_iff_not, beq_iff_eq, beq_eq_false_iff_ne, ne_eq, bne_iff_ne, Bool.not_eq_true, ge_iff_le, gt_iff_lt] at hr) <;> try (exfalso; first | omega | exact hr rfl | (simp at hr; done) | (simp at hr; omega)))
     | (apply And.intro; · first | exact Nat.le_of_ble_eq_true rfl | (show indep _ _ = true; kernel_rfl) | decide | exact ⟨by decide, by decide⟩ | exact ⟨Nat.le_of_ble_eq_true rfl, allOne_of rfl⟩ | exact allOne_of rfl | exact ⟨by omega, by omega⟩ | exact ⟨rfl, rfl⟩)
     | (apply Exists.intro; apply And.intro; · first | exact rfl)
     | (apply Exists.intro; apply Exists.intro; apply Exists.intro; apply And.intro; · first | (refine ATriple.callN (c0) ?_ ?_ ?_ <;> rfl))
     | fail
    all_goals (conv => whnf)
    refine VLoop.adopt 6 55 2 ?_
    conv => whnf
    refine VLoop.weak [.snapT 6] ?_
    conv => whnf
    refine ⟨⟨rfl, Nat.le_of_ble_eq_true rfl⟩, ?_⟩
    conv => whnf
    refine VLoop.norm [0, 1, 5, 6, 7] [22] ?_
    repeat' (conv => whnf); first
     | (apply And.intro; · first | exact Nat.le_of_ble_eq_true rfl | (show indep _ _ = true; kernel_rfl) | decide | exact pA | exact pU | exact pureNil)
     | (apply Exists.intro; apply And.intro; · first | exact rfl)
     | fail
    change VLoop cxW E b7 _ _
    refine VLoop.inv (fun z : TZ × Nat => stPl l ask z.1 z.2) (fun z => z.2 ≤ l.length ∧ ZOk z.2 z.1) (fun z => l.length - z.2) ⟨TZ.new, 0⟩ ⟨Nat.zero_le _, ZOk.new⟩ rfl ?_
    rintro ⟨z, i⟩ ⟨hi, hz⟩ ih
    simp only at hi hz ih
    show VLoop cxW E b7 (stPl l ask z i) _
    by_cases hgo : i < l.length
    case pos =>
      obtain ⟨a, ha⟩ : ∃ a, l[i]? = some a := ⟨_, List.getElem?_eq_getElem hgo⟩
      obtain ⟨hk0, hk1⟩ := hk a (List.mem_of_getElem? ha)
      have ih' : ∀ z', ZOk (i + 1) z' → VLoop cxW E b7 (stPl l ask z' (i + 1)) _ := fun z' hz' => ih ⟨z', i + 1⟩ ⟨hgo, hz'⟩ (by show l.length - (i + 1) < l.length - i; omega)
      have hT4 : a.kd.tmod 4 = 0 ∨ a.kd.tmod 4 = 1 ∨ a.kd.tmod 4 = 2 ∨ a.kd.tmod 4 = 3 := by
        obtain ⟨n, hn⟩ := Int.eq_ofNat_of_zero_le hk0
        rw [hn]
        have : ((n : Int).tmod 4) = ((n % 4 : Nat) : Int) := rfl
        rw [this]; omega
      by_cases hm : a.kd ≥ 64
      · rcases hT4 with h | h | h | h
        · exact plays_0b hE l ask hl i z hz ih' hgo ha hm h
        · exact plays_1b hE l ask hl i z hz ih' hgo ha hm h
        · exact plays_2b hE l ask hl i z hz ih' hgo ha hm h
        · exact plays_3b hE l ask hl i z hz ih' hgo ha hm h
      · rcases hT4 with h | h | h | h
        · exact plays_0s hE l ask hl i z hz ih' hgo ha hm h
        · exact plays_1s hE l ask hl i z hz ih' hgo ha hm h
        · exact plays_2s hE l ask hl i z hz ih' hgo ha hm h
        · exact plays_3s hE l ask hl i z hz ih' hgo ha hm h
    case neg =>
      have hz2 := hz.le (show i ≤ 150 by omega)
      have hzk := hz2.lk
      have pZ := pure_P z.ks
      clear ih
      refine VLoop.unroll hE (mixedOf _) ?_
      repeat' (conv => whnf); first
       | (refine bcase_of (fun hr => ?_) (fun hr => ?_) <;> (try simp only [decide_eq_true_eq, decide_eq_false_iff_not, beq_iff_eq, beq_eq_false_iff_ne, ne_eq, bne_iff_ne, Bool.not_eq_true, ge_iff_le, gt_iff_lt] at hr) <;> try (exfalso; first | omega | exact hr rfl | (simp at hr; done) | (simp at hr; omega)))
       | (apply And.intro; · first | exact Nat.le_of_ble_eq_true rfl | (show indep _ _ = true; kernel_rfl) | decide | exact ⟨by decide, by decide⟩ | exact ⟨Nat.le_of_ble_eq_true rfl, allOne_of rfl⟩ | exact allOne_of rfl | exact ⟨by omega, by omega⟩ | exact ⟨rfl, rfl⟩ | exact pZ)
       | (apply Exists.intro; apply And.intro; · first | exact rfl)
       | fail
      all_goals (conv => whnf)
      refine VLoop.norm [0, 1, 5, 6, 12] [22] ?_
      repeat' (conv => whnf); first
       | (apply And.intro; · first | exact Nat.le_of_ble_eq_true rfl | (show indep _ _ = true; kernel_rfl) | decide | exact pA | exact pU | exact pZ)
       | (apply Exists.intro; apply And.intro; · first | exact rfl)
       | fail
      refine VLoop.inv (fun j : Nat => stPa l ask z j) (fun j => j ≤ ask.length) (fun j => ask.length - j) 0 (Nat.zero_le _) rfl ?_
      intro j hj ih
      have hw : IntKind.i64.wrap ((j : Int) + 1) = ((j + 1 : Nat) : Int) := wrap64 (by omega) (by omega)
      by_cases hgj : j < ask.length
      case pos =>
        obtain ⟨k, hk⟩ : ∃ a, ask[j]? = some a := ⟨_, List.getElem?_eq_getElem hgj⟩
        have gk := getU hk
        have cT := told_ok hz2 (by omega) k
        refine VLoop.unroll hE (mixedOf _) ?_
        repeat' (conv => whnf); first
         | (refine bcase_of (fun hr => ?_) (fun hr => ?_) <;> (try simp only [decide_eq_true_eq, decide_eq_false_iff_not, beq_iff_eq, beq_eq_false_iff_ne, ne_eq, bne_iff_ne, Bool.not_eq_true, ge_iff_le, gt_iff_lt] at hr) <;> try (exfalso; first | omega | exact hr rfl | (simp at hr; done) | (simp at hr; omega)))
         | (apply And.intro; · first | exact Nat.le_of_ble_eq_true rfl | (show indep _ _ = true; kernel_rfl) | decide | exact ⟨by decide, by decide⟩ | exact ⟨Nat.le_of_ble_eq_true rfl, allOne_of rfl⟩ | exact allOne_of rfl | exact ⟨by omega, by omega⟩ | exact ⟨rfl, rfl⟩ | exact pZ | exact ⟨by omega, by rw [lU]; omega⟩)
         | (apply Exists.intro; apply And.intro; · first | exact rfl | exact gk)
         | (apply Exists.intro; apply Exists.intro; apply Exists.intro; apply And.intro; · first | (refine ATriple.callN (cT) ?_ ?_ ?_ <;> rfl))
         | fail
        all_goals (conv => whnf)
        refine VLoop.norm [0, 1, 5, 6, 12] [22] ?_
        repeat' (conv => whnf); first
         | (apply And.intro; · first | exact Nat.le_of_ble_eq_true rfl | (show indep _ _ = true; kernel_rfl) | decide | exact pA | exact pU | exact pZ)
         | (apply Exists.intro; apply And.intro; · first | exact rfl)
         | fail
        try rw [hw]
        exact ih (j + 1) hgj (by omega)
      case neg =>
        refine VLoop.unroll hE (mixedOf _) ?_
        repeat' (conv => whnf); first
         | (refine bcase_of (fun hr => ?_) (fun hr => ?_) <;> (try simp only [decide_eq_true_eq, decide_eq_false_iff_not, beq_iff_eq, beq_eq_false_iff_ne, ne_eq, bne_iff_ne, Bool.not_eq_true, ge_iff_le, gt_iff_lt] at hr) <;> try (exfalso; first | omega | exact hr rfl | (simp at hr; done) | (simp at hr; omega)))
         | (apply And.intro; · first | exact Nat.le_of_ble_eq_true rfl | (show indep _ _ = true; kernel_rfl) | decide | exact ⟨by decide, by decide⟩ | exact ⟨Nat.le_of_ble_eq_true rfl, allOne_of rfl⟩ | exact allOne_of rfl | exact ⟨by omega, by omega⟩ | exact ⟨rfl, rfl⟩)
         | (apply Exists.intro; apply And.intro; · first | exact rfl | exact wakes_ok | exact none_ok 7)
         | fail
        all_goals (conv => whnf)
        all_goals rfl
abbrev actSh : Sh := .pair (.int .u8) (.pair (.int .u32) (.pair (.int .i64) .unit))
def acOf (a : actSh.T) : Ac := ⟨a.1, a.2.1, a.2.2.1⟩
theorem acts_arg (l : List actSh.T) : acV (l.map acOf) = Sh.argV (.slice actSh) l := by
  show V.lst 3 _ = V.lst 3 _
  rw [List.map_map]; rfl
theorem u32s_arg (l : List Int) : uV l = Sh.argV (.slice (.int .u32)) l := rfl
end Go.Proofs.Ytbppemcdphgknaa.T
/- Chapter 16: TreeDeep. -/
namespace Go.Proofs.Ytbppemcdphgknaa.T
open Go Go.Vm
set_option maxRecDepth 100000
set_option maxHeartbeats 40000000
set_option linter.unusedSimpArgs false
set_option linter.unusedVariables false
noncomputable def b11 : Code := ((Try.f11.body.bind loopOf).getD .skip)
def stDp (l : List Int) (z : TZ) (i : Nat) : St DV := mkSt 59 [(0, uV l), (3, .ref (14, 1) 0), (4, i64V i)] [(13, .abs (trZ z))] []
def loD : Nat → Int
  | 0 => 0
  | 1 => 0
  | 2 => 6
  | 3 => 18
  | 4 => 54
  | _ => 162
def moD : Nat → Int
  | 0 => 6
  | 1 => 6
  | 2 => 36
  | 3 => 216
  | 4 => 1296
  | _ => 7776
def stDq (z : TZ) (h j : Nat) : St DV := mkSt 59 [(3, .ref (14, 1) 0), (5, i64V ((h + 1 : Nat) : Int)), (6, i64V (loD j)), (7, i64V (moD j)), (8, i64V j)] [(13, .abs (trZ z))] []
theorem pow_ge {h : Nat} (hh : 5 ≤ h) : 243 ≤ 3 ^ h := by
  have : 3 ^ 5 ≤ 3 ^ h := Nat.pow_le_pow_right (by decide) hh
  omega
theorem deep16_ok (l : List Int) : PTriple Try.prog gv 11 [uV l] (.bool true) := by
  have pU := pure_U l
  have lU := lenU l
  by_cases hlen : l.length ≤ 300
  case neg =>
    refine PTriple.of_body (C := cxW) Try.func11 rfl (by kernel_rfl) (mixedOf _) fun E hE => ?_
    repeat' (conv => whnf); first
     | (refine bcase_of (fun hr => ?_) (fun hr => ?_) <;> (try simp only [decide_eq_true_eq, decide_eq_false_iff_not, beq_iff_eq, beq_eq_false_iff_ne, ne_eq, bne_iff_ne, Bool.not_eq_true, ge_iff_le, gt_iff_lt] at hr) <;> try (exfalso; first | omega | exact hr rfl | (simp at hr; done) | (simp at hr; omega)))
     | (apply And.intro; · first | exact Nat.le_of_ble_eq_true rfl | (show indep _ _ = true; kernel_rfl) | decide | exact ⟨by decide, by decide⟩ | exact ⟨Nat.le_of_ble_eq_true rfl, allOne_of rfl⟩ | exact allOne_of rfl | exact ⟨by omega, by omega⟩ | exact ⟨rfl, rfl⟩)
     | (apply Exists.intro; apply And.intro; · first | exact rfl | exact wakes_ok)
     | fail
    all_goals (conv => whnf)
    all_goals rfl
  case pos =>
    have c0 := newZ
    refine PTriple.of_body (C := cxW) Try.func11 rfl (by kernel_rfl) (mixedOf _) fun E hE => ?_
    repeat' (conv => whnf); first
     | (refine bcase_of (fun hr => ?_) (fun hr => ?_) <;> (try simp only [decide_eq_true_eq, decide_eq_false_iff_not, beq_iff_eq, beq_eq_false_iff_ne, ne_eq, bne_iff_ne, Bool.not_eq_true, ge_iff_le, gt_iff_lt] at hr) <;> try (exfalso; first | omega | exact hr rfl | (simp at hr; done) | (simp at hr; omega)))
     | (apply And.intro; · first | exact Nat.le_of_ble_eq_true rfl | (show indep _ _ = true; kernel_rfl) | decide | exact ⟨by decide, by decide⟩ | exact ⟨Nat.le_of_ble_eq_true rfl, allOne_of rfl⟩ | exact allOne_of rfl | exact ⟨by omega, by omega⟩ | exact ⟨rfl, rfl⟩)
     | (apply Exists.intro; apply And.intro; · first | exact rfl)
     | (apply Exists.intro; apply Exists.intro; apply Exists.intro; apply And.intro; · first | (refine ATriple.callN (c0) ?_ ?_ ?_ <;> rfl))
     | fail
    all_goals (conv => whnf)
    refine VLoop.norm [0, 3, 4] [13] ?_
    repeat' (conv => whnf); first
     | (apply And.intro; · first | exact Nat.le_of_ble_eq_true rfl | (show indep _ _ = true; kernel_rfl) | decide | exact pU)
     | (apply Exists.intro; apply And.intro; · first | exact rfl)
     | fail
    refine VLoop.inv (fun z : TZ × Nat => stDp l z.1 z.2) (fun z => z.2 ≤ l.length ∧ ZOk z.2 z.1) (fun z => l.length - z.2) ⟨TZ.new, 0⟩ ⟨Nat.zero_le _, ZOk.new⟩ rfl ?_
    rintro ⟨z, i⟩ ⟨hi, hz⟩ ih
    simp only at hi hz ih
    show VLoop cxW E _ (stDp l z i) _
    have hw : IntKind.i64.wrap ((i : Int) + 1) = ((i + 1 : Nat) : Int) := wrap64 (by omega) (by omega)
    by_cases hgo : i < l.length
    case pos =>
      obtain ⟨k, hk⟩ : ∃ a, l[i]? = some a := ⟨_, List.getElem?_eq_getElem hgo⟩
      have gk := getU hk
      obtain ⟨z2, cP, o2, e2⟩ := putZ hz (by omega) k i
      refine VLoop.unroll hE (mixedOf _) ?_
      repeat' (conv => whnf); first
       | (refine bcase_of (fun hr => ?_) (fun hr => ?_) <;> (try simp only [decide_eq_true_eq, decide_eq_false_iff_not, beq_iff_eq, beq_eq_false_iff_ne, ne_eq, bne_iff_ne, Bool.not_eq_true, ge_iff_le, gt_iff_lt] at hr) <;> try (exfalso; first | omega | exact hr rfl | (simp at hr; done) | (simp at hr; omega)))
       | (apply And.intro; · first | exact Nat.le_of_ble_eq_true rfl | (show indep _ _ = true; kernel_rfl) | decide | exact ⟨by decide, by decide⟩ | exact ⟨Nat.le_of_ble_eq_true rfl, allOne_of rfl⟩ | exact allOne_of rfl | exact ⟨by omega, by omega⟩ | exact ⟨rfl, rfl⟩ | exact ⟨by omega, by rw [lU]; omega⟩)
       | (apply Exists.intro; apply And.intro; · first | exact rfl | exact gk)
       | (apply Exists.intro; apply Exists.intro; apply Exists.intro; apply And.intro; · first | (refine ATriple.callN (cP) ?_ ?_ ?_ <;> rfl))
       | fail
      all_goals (conv => whnf)
      refine VLoop.norm [0, 3, 4] [13] ?_
      repeat' (conv => whnf); first
       | (apply And.intro; · first | exact Nat.le_of_ble_eq_true rfl | (show indep _ _ = true; kernel_rfl) | decide | exact pU)
       | (apply Exists.intro; apply And.intro; · first | exact rfl)
       | fail
      try rw [hw]
      exact ih ⟨z2, i + 1⟩ ⟨hgo, o2⟩ (by show l.length - (i + 1) < l.length - i; omega)
    case neg =>
      have hz2 := hz.le (show i ≤ 300 by omega)
      have hzk := hz2.lk
      have cS := shapeZ hz2 (by omega)
      have cL := lenZ z
      have lS : (encS z.sh).length = z.h + 1 := by rw [lenS]; unfold TZ.sh; rw [lev_len]
      have pS := pure_S z.sh
      obtain ⟨d1, d2⟩ := hz2.ts.deep
      have h5 : z.h < 5 := by
        rcases Nat.lt_or_ge z.h 5 with h | h
        · exact h
        · have := pow_ge h
          have := d1 (by omega)
          omega
      have hc : z.h = 0 ∨ z.h = 1 ∨ z.h = 2 ∨ z.h = 3 ∨ z.h = 4 := by omega
      clear ih
      generalize z.sh = sh at cS lS pS
      generalize z.h = h at *
      have hh1 : (((h + 1 : Nat) : Int)) = (h : Int) + 1 := by omega
      refine VLoop.unroll hE (mixedOf _) ?_
      repeat' (conv => whnf); first
       | (refine bcase_of (fun hr => ?_) (fun hr => ?_) <;> (try simp only [decide_eq_true_eq, decide_eq_false_iff_not, beq_iff_eq, beq_eq_false_iff_ne, ne_eq, bne_iff_ne, Bool.not_eq_true, ge_iff_le, gt_iff_lt] at hr) <;> try (exfalso; first | omega | exact hr rfl | (simp at hr; done) | (simp at hr; omega)))
       | (apply And.intro; · first | exact Nat.le_of_ble_eq_true rfl | (show indep _ _ = true; kernel_rfl) | decide | exact ⟨by decide, by decide⟩ | exact ⟨Nat.le_of_ble_eq_true rfl, allOne_of rfl⟩ | exact allOne_of rfl | exact ⟨by omega, by omega⟩ | exact ⟨rfl, rfl⟩ | exact pS)
       | (apply Exists.intro; apply And.intro; · first | exact rfl)
       | rw [lS]
       | (apply Exists.intro; apply Exists.intro; apply Exists.intro; apply And.intro; · first | (refine ATriple.callN (cS) ?_ ?_ ?_ <;> rfl))
       | fail
      all_goals (conv => whnf)
      refine VLoop.norm [3, 5, 6, 7, 8] [13] ?_
      repeat' (conv => whnf); first
       | (apply And.intro; · first | exact Nat.le_of_ble_eq_true rfl | (show indep _ _ = true; kernel_rfl) | decide | exact pU)
       | (apply Exists.intro; apply And.intro; · first | exact rfl)
       | fail
      refine VLoop.inv (fun j : Nat => stDq z h j) (fun j => 1 ≤ j ∧ j ≤ h + 1) (fun j => h + 1 - j) 1 ⟨Nat.le_refl _, by omega⟩ (by first | rfl | (rw [lS]; rfl)) ?_
      intro j ⟨hj1, hj2⟩ ih
      by_cases hgj : j < h + 1
      case pos =>
        have hj : j = 1 ∨ j = 2 ∨ j = 3 ∨ j = 4 := by omega
        rcases hj with rfl | rfl | rfl | rfl
        · refine VLoop.unroll hE (mixedOf _) ?_
          repeat' (conv => whnf); first
           | (refine bcase_of (fun hr => ?_) (fun hr => ?_) <;> (try simp only [decide_eq_true_eq, decide_eq_false_iff_not, beq_iff_eq, beq_eq_false_iff_ne, ne_eq, bne_iff_ne, Bool.not_eq_true, ge_iff_le, gt_iff_lt] at hr) <;> try (exfalso; first | omega | exact hr rfl | (simp at hr; done) | (simp at hr; omega)))
           | (apply And.intro; · first | exact Nat.le_of_ble_eq_true rfl | (show indep _ _ = true; kernel_rfl) | decide | exact ⟨by decide, by decide⟩ | exact ⟨Nat.le_of_ble_eq_true rfl, allOne_of rfl⟩ | exact allOne_of rfl | exact ⟨by omega, by omega⟩ | exact ⟨rfl, rfl⟩)
           | (apply Exists.intro; apply And.intro; · first | exact rfl)
           | fail
          all_goals (conv => whnf)
          refine VLoop.norm [3, 5, 6, 7, 8] [13] ?_
          repeat' (conv => whnf); first
           | (apply And.intro; · first | exact Nat.le_of_ble_eq_true rfl | (show indep _ _ = true; kernel_rfl) | decide)
           | (apply Exists.intro; apply And.intro; · first | exact rfl)
           | fail
          exact ih 2 ⟨by omega, by omega⟩ (by omega)
        · refine VLoop.unroll hE (mixedOf _) ?_
          repeat' (conv => whnf); first
           | (refine bcase_of (fun hr => ?_) (fun hr => ?_) <;> (try simp only [decide_eq_true_eq, decide_eq_false_iff_not, beq_iff_eq, beq_eq_false_iff_ne, ne_eq, bne_iff_ne, Bool.not_eq_true, ge_iff_le, gt_iff_lt] at hr) <;> try (exfalso; first | omega | exact hr rfl | (simp at hr; done) | (simp at hr; omega)))
           | (apply And.intro; · first | exact Nat.le_of_ble_eq_true rfl | (show indep _ _ = true; kernel_rfl) | decide | exact ⟨by decide, by decide⟩ | exact ⟨Nat.le_of_ble_eq_true rfl, allOne_of rfl⟩ | exact allOne_of rfl | exact ⟨by omega, by omega⟩ | exact ⟨rfl, rfl⟩)
           | (apply Exists.intro; apply And.intro; · first | exact rfl)
           | fail
          all_goals (conv => whnf)
          refine VLoop.norm [3, 5, 6, 7, 8] [13] ?_
          repeat' (conv => whnf); first
           | (apply And.intro; · first | exact Nat.le_of_ble_eq_true rfl | (show indep _ _ = true; kernel_rfl) | decide)
           | (apply Exists.intro; apply And.intro; · first | exact rfl)
           | fail
          exact ih 3 ⟨by omega, by omega⟩ (by omega)
        · refine VLoop.unroll hE (mixedOf _) ?_
          repeat' (conv => whnf); first
           | (refine bcase_of (fun hr => ?_) (fun hr => ?_) <;> (try simp only [decide_eq_true_eq, decide_eq_false_iff_not, beq_iff_eq, beq_eq_false_iff_ne, ne_eq, bne_iff_ne, Bool.not_eq_true, ge_iff_le, gt_iff_lt] at hr) <;> try (exfalso; first | omega | exact hr rfl | (simp at hr; done) | (simp at hr; omega)))
           | (apply And.intro; · first | exact Nat.le_of_ble_eq_true rfl | (show indep _ _ = true; kernel_rfl) | decide | exact ⟨by decide, by decide⟩ | exact ⟨Nat.le_of_ble_eq_true rfl, allOne_of rfl⟩ | exact allOne_of rfl | exact ⟨by omega, by omega⟩ | exact ⟨rfl, rfl⟩)
           | (apply Exists.intro; apply And.intro; · first | exact rfl)
           | fail
          all_goals (conv => whnf)
          refine VLoop.norm [3, 5, 6, 7, 8] [13] ?_
          repeat' (conv => whnf); first
           | (apply And.intro; · first | exact Nat.le_of_ble_eq_true rfl | (show indep _ _ = true; kernel_rfl) | decide)
           | (apply Exists.intro; apply And.intro; · first | exact rfl)
           | fail
          exact ih 4 ⟨by omega, by omega⟩ (by omega)
        · refine VLoop.unroll hE (mixedOf _) ?_
          repeat' (conv => whnf); first
           | (refine bcase_of (fun hr => ?_) (fun hr => ?_) <;> (try simp only [decide_eq_true_eq, decide_eq_false_iff_not, beq_iff_eq, beq_eq_false_iff_ne, ne_eq, bne_iff_ne, Bool.not_eq_true, ge_iff_le, gt_iff_lt] at hr) <;> try (exfalso; first | omega | exact hr rfl | (simp at hr; done) | (simp at hr; omega)))
           | (apply And.intro; · first | exact Nat.le_of_ble_eq_true rfl | (show indep _ _ = true; kernel_rfl) | decide | exact ⟨by decide, by decide⟩ | exact ⟨Nat.le_of_ble_eq_true rfl, allOne_of rfl⟩ | exact allOne_of rfl | exact ⟨by omega, by omega⟩ | exact ⟨rfl, rfl⟩)
           | (apply Exists.intro; apply And.intro; · first | exact rfl)
           | fail
          all_goals (conv => whnf)
          refine VLoop.norm [3, 5, 6, 7, 8] [13] ?_
          repeat' (conv => whnf); first
           | (apply And.intro; · first | exact Nat.le_of_ble_eq_true rfl | (show indep _ _ = true; kernel_rfl) | decide)
           | (apply Exists.intro; apply And.intro; · first | exact rfl)
           | fail
          exact ih 5 ⟨by omega, by omega⟩ (by omega)
      case neg =>
        obtain rfl : j = h + 1 := by omega
        rcases hc with rfl | rfl | rfl | rfl | rfl
        · simp at d1 d2
          have e1 : loD 1 = 0 := rfl
          have e2 : moD 1 = 6 := rfl
          refine VLoop.unroll hE (mixedOf _) ?_
          repeat' (conv => whnf); first
           | (refine bcase_of (fun hr => ?_) (fun hr => ?_) <;> (try simp only [decide_eq_true_eq, decide_eq_false_iff_not, beq_iff_eq, beq_eq_false_iff_ne, ne_eq, bne_iff_ne, Bool.not_eq_true, ge_iff_le, gt_iff_lt] at hr) <;> try (exfalso; first | omega | exact hr rfl | (simp at hr; done) | (simp at hr; omega)))
           | (apply And.intro; · first | exact Nat.le_of_ble_eq_true rfl | (show indep _ _ = true; kernel_rfl) | decide | exact ⟨by decide, by decide⟩ | exact ⟨Nat.le_of_ble_eq_true rfl, allOne_of rfl⟩ | exact allOne_of rfl | exact ⟨by omega, by omega⟩ | exact ⟨rfl, rfl⟩)
           | (apply Exists.intro; apply And.intro; · first | exact rfl | exact wakes_ok)
           | (apply Exists.intro; apply Exists.intro; apply Exists.intro; apply And.intro; · first | (refine ATriple.callN (cL) ?_ ?_ ?_ <;> rfl))
           | fail
          all_goals (conv => whnf)
          all_goals rfl
        · simp at d1 d2
          have e1 : loD 2 = 6 := rfl
          have e2 : moD 2 = 36 := rfl
          refine VLoop.unroll hE (mixedOf _) ?_
          repeat' (conv => whnf); first
           | (refine bcase_of (fun hr => ?_) (fun hr => ?_) <;> (try simp only [decide_eq_true_eq, decide_eq_false_iff_not, beq_iff_eq, beq_eq_false_iff_ne, ne_eq, bne_iff_ne, Bool.not_eq_true, ge_iff_le, gt_iff_lt] at hr) <;> try (exfalso; first | omega | exact hr rfl | (simp at hr; done) | (simp at hr; omega)))
           | (apply And.intro; · first | exact Nat.le_of_ble_eq_true rfl | (show indep _ _ = true; kernel_rfl) | decide | exact ⟨by decide, by decide⟩ | exact ⟨Nat.le_of_ble_eq_true rfl, allOne_of rfl⟩ | exact allOne_of rfl | exact ⟨by omega, by omega⟩ | exact ⟨rfl, rfl⟩)
           | (apply Exists.intro; apply And.intro; · first | exact rfl | exact wakes_ok)
           | (apply Exists.intro; apply Exists.intro; apply Exists.intro; apply And.intro; · first | (refine ATriple.callN (cL) ?_ ?_ ?_ <;> rfl))
           | fail
          all_goals (conv => whnf)
          all_goals rfl
        · simp at d1 d2
          have e1 : loD 3 = 18 := rfl
          have e2 : moD 3 = 216 := rfl
          refine VLoop.unroll hE (mixedOf _) ?_
          repeat' (conv => whnf); first
           | (refine bcase_of (fun hr => ?_) (fun hr => ?_) <;> (try simp only [decide_eq_true_eq, decide_eq_false_iff_not, beq_iff_eq, beq_eq_false_iff_ne, ne_eq, bne_iff_ne, Bool.not_eq_true, ge_iff_le, gt_iff_lt] at hr) <;> try (exfalso; first | omega | exact hr rfl | (simp at hr; done) | (simp at hr; omega)))
           | (apply And.intro; · first | exact Nat.le_of_ble_eq_true rfl | (show indep _ _ = true; kernel_rfl) | decide | exact ⟨by decide, by decide⟩ | exact ⟨Nat.le_of_ble_eq_true rfl, allOne_of rfl⟩ | exact allOne_of rfl | exact ⟨by omega, by omega⟩ | exact ⟨rfl, rfl⟩)
           | (apply Exists.intro; apply And.intro; · first | exact rfl | exact wakes_ok)
           | (apply Exists.intro; apply Exists.intro; apply Exists.intro; apply And.intro; · first | (refine ATriple.callN (cL) ?_ ?_ ?_ <;> rfl))
           | fail
          all_goals (conv => whnf)
          all_goals rfl
        · simp at d1 d2
          have e1 : loD 4 = 54 := rfl
          have e2 : moD 4 = 1296 := rfl
          refine VLoop.unroll hE (mixedOf _) ?_
          repeat' (conv => whnf); first
           | (refine bcase_of (fun hr => ?_) (fun hr => ?_) <;> (try simp only [decide_eq_true_eq, decide_eq_false_iff_not, beq_iff_eq, beq_eq_false_iff_ne, ne_eq, bne_iff_ne, Bool.not_eq_true, ge_iff_le, gt_iff_lt] at hr) <;> try (exfalso; first | omega | exact hr rfl | (simp at hr; done) | (simp at hr; omega)))
           | (apply And.intro; · first | exact Nat.le_of_ble_eq_true rfl | (show indep _ _ = true; kernel_rfl) | decide | exact ⟨by decide, by decide⟩ | exact ⟨Nat.le_of_ble_eq_true rfl, allOne_of rfl⟩ | exact allOne_of rfl | exact ⟨by omega, by omega⟩ | exact ⟨rfl, rfl⟩)
           | (apply Exists.intro; apply And.intro; · first | exact rfl | exact wakes_ok)
           | (apply Exists.intro; apply Exists.intro; apply Exists.intro; apply And.intro; · first | (refine ATriple.callN (cL) ?_ ?_ ?_ <;> rfl))
           | fail
          all_goals (conv => whnf)
          all_goals rfl
        · simp at d1 d2
          have e1 : loD 5 = 162 := rfl
          have e2 : moD 5 = 7776 := rfl
          refine VLoop.unroll hE (mixedOf _) ?_
          repeat' (conv => whnf); first
           | (refine bcase_of (fun hr => ?_) (fun hr => ?_) <;> (try simp only [decide_eq_true_eq, decide_eq_false_iff_not, beq_iff_eq, beq_eq_false_iff_ne, ne_eq, bne_iff_ne, Bool.not_eq_true, ge_iff_le, gt_iff_lt] at hr) <;> try (exfalso; first | omega | exact hr rfl | (simp at hr; done) | (simp at hr; omega)))
           | (apply And.intro; · first | exact Nat.le_of_ble_eq_true rfl | (show indep _ _ = true; kernel_rfl) | decide | exact ⟨by decide, by decide⟩ | exact ⟨Nat.le_of_ble_eq_true rfl, allOne_of rfl⟩ | exact allOne_of rfl | exact ⟨by omega, by omega⟩ | exact ⟨rfl, rfl⟩)
           | (apply Exists.intro; apply And.intro; · first | exact rfl | exact wakes_ok)
           | (apply Exists.intro; apply Exists.intro; apply Exists.intro; apply And.intro; · first | (refine ATriple.callN (cL) ?_ ?_ ?_ <;> rfl))
           | fail
          all_goals (conv => whnf)
          all_goals rfl
end Go.Proofs.Ytbppemcdphgknaa.T
/- Chapter 16: TreeWalk. -/
namespace Go.Proofs.Ytbppemcdphgknaa.T
open Go Go.Vm
set_option maxRecDepth 100000
set_option maxHeartbeats 40000000
set_option linter.unusedSimpArgs false
set_option linter.unusedVariables false
theorem mem_lay_iff : ∀ {l : PL} {k v : Int} {e : Int × Int}, Srt l → (e ∈ lay l k v ↔ e = (k, v) ∨ (e ∈ l ∧ e.1 ≠ k))
  | [], k, v, e, _ => by simp [lay]
  | a :: r, k, v, e, hs => by
    have hs' := List.pairwise_cons.1 hs
    simp only [lay]
    split
    · rename_i h
      rw [List.mem_cons, mem_lay_iff hs'.2, List.mem_cons]
      constructor
      · rintro (rfl | h1 | h1)
        · exact .inr ⟨.inl rfl, by omega⟩
        · exact .inl h1
        · exact .inr ⟨.inr h1.1, h1.2⟩
      · rintro (h1 | ⟨h1 | h1, h2⟩)
        · exact .inr (.inl h1)
        · exact .inl h1
        · exact .inr (.inr ⟨h1, h2⟩)
    · split
      · rename_i h1 h2
        rw [List.mem_cons, List.mem_cons]
        constructor
        · rintro (h | h)
          · exact .inl h
          · have := hs'.1 e h
            exact .inr ⟨.inr h, by omega⟩
        · rintro (h | ⟨rfl | h, h3⟩)
          · exact .inl h
          · exact absurd h2 h3
          · exact .inr h
      · rename_i h1 h2
        rw [List.mem_cons]
        constructor
        · rintro (h | h)
          · exact .inl h
          · refine .inr ⟨h, ?_⟩
            rcases List.mem_cons.1 h with rfl | h
            · exact h2
            · have := hs'.1 e h; omega
        · rintro (h | ⟨h, _⟩)
          · exact .inl h
          · exact .inr h
theorem has_iff {l : PL} (hs : Srt l) {k : Int} : has l k = true ↔ ∃ v, (k, v) ∈ l :=
  ⟨fun h => ⟨_, (gt_mem h).2⟩, fun ⟨v, h⟩ => has_mem hs (x := (k, v)) h⟩
theorem has_lay {l : PL} (hs : Srt l) {k v x : Int} : has (lay l k v) x = true ↔ x = k ∨ has l x = true := by
  rw [has_iff (lay_srt hs), has_iff hs]
  constructor
  · rintro ⟨w, hw⟩
    rcases (mem_lay_iff hs).1 hw with h | h
    · exact .inl (Prod.mk.inj h).1
    · exact .inr ⟨w, h.1⟩
  · rintro (rfl | ⟨w, hw⟩)
    · exact ⟨v, (mem_lay_iff hs).2 (.inl rfl)⟩
    · by_cases h : x = k
      · subst h; exact ⟨v, (mem_lay_iff hs).2 (.inl rfl)⟩
      · exact ⟨w, (mem_lay_iff hs).2 (.inr ⟨hw, h⟩)⟩
/-- After the first i of the keys, with their places. -/
structure WI (l : List Int) (i : Nat) (ks : PL) : Prop where
  val : ∀ e ∈ ks, ∃ v : Nat, e.2 = v ∧ v < i ∧ l[v]? = some e.1 ∧ ∀ j, v < j → j < i → l[j]? ≠ some e.1
  all : ∀ j x, j < i → l[j]? = some x → has ks x = true
theorem WI.step {l : List Int} {i : Nat} {ks : PL} {x : Int} (h : WI l i ks) (hs : Srt ks) (hx : l[i]? = some x) : WI l (i + 1) (lay ks x i) where
  val e he := by
    rcases (mem_lay_iff hs).1 he with rfl | ⟨he, hne⟩
    · exact ⟨i, rfl, by omega, hx, fun j h1 h2 => by omega⟩
    · obtain ⟨v, q1, q2, q3, q4⟩ := h.val e he
      refine ⟨v, q1, by omega, q3, fun j h1 h2 => ?_⟩
      by_cases hj : j = i
      · subst hj
        rw [hx]
        intro e1
        exact hne (Option.some.inj e1).symm
      · exact q4 j h1 (by omega)
  all j y hj hy := by
    rw [has_lay hs]
    by_cases hji : j = i
    · subst hji; rw [hx] at hy; exact .inl (Option.some.inj hy).symm
    · exact .inr (h.all j y (by omega) hy)
/-- How far the walk is. -/
structure WK (ks : PL) (n : Nat) (frm : Int) (more : Bool) (A D : PL) : Prop where
  eq : ks = A ++ D
  len : A.length = n
  yes : more = true → (∀ e ∈ A, e.1 < frm) ∧ (∀ e ∈ D, frm ≤ e.1)
  no : more = false → D = []
def stWk (l : List Int) (z : TZ) (i : Nat) : St DV := mkSt 112 [(0, uV l), (3, .ref (20, 1) 0), (4, i64V i)] [(19, .abs (trZ z))] []
def stW2 (l : List Int) (z : TZ) (n : Nat) (frm : Int) (more : Bool) : St DV := mkSt 112 [(0, uV l), (3, .ref (20, 1) 0), (5, i64V n), (6, u32V frm), (7, .bool more)] [(19, .abs (trZ z))] []
def stW3 (l : List Int) (z : TZ) (n : Nat) (k v : Int) (i : Nat) : St DV := mkSt 112 [(0, uV l), (3, .ref (20, 1) 0), (5, i64V n), (8, u32V k), (9, i64V v), (11, i64V i)] [(19, .abs (trZ z))] []
def stW4 (l : List Int) (z : TZ) (i : Nat) : St DV := mkSt 112 [(0, uV l), (3, .ref (20, 1) 0), (12, i64V i)] [(19, .abs (trZ z))] []
structure ZW where
  n : Nat
  frm : Int
  more : Bool
  A : PL
  D : PL
theorem wrap32 {n : Int} (h0 : 0 ≤ n) (h1 : n ≤ 4294967295) : IntKind.u32.wrap n = n := by
  have : IntKind.u32.wrap n = n % 4294967296 := rfl
  rw [this]; omega
theorem walk16_ok (l : List Int) (hbnd : ∀ x ∈ l, 0 ≤ x ∧ x ≤ 4294967295) : PTriple Try.prog gv 8 [uV l] (.bool true) := by
  have pU := pure_U l
  have lU := lenU l
  by_cases hlen : l.length ≤ 150
  case neg =>
    refine PTriple.of_body (C := cxW) Try.func8 rfl (by kernel_rfl) (mixedOf _) fun E hE => ?_
    repeat' (conv => whnf); first
     | (refine bcase_of (fun hr => ?_) (fun hr => ?_) <;> (try simp only [decide_eq_true_eq, decide_eq_false_iff_not, beq_iff_eq, beq_eq_false_iff_ne, ne_eq, bne_iff_ne, Bool.not_eq_true, ge_iff_le, gt_iff_lt] at hr) <;> try (exfalso; first | omega | exact hr rfl | (simp at hr; done) | (simp at hr; omega)))
     | (apply And.intro; · first | exact Nat.le_of_ble_eq_true rfl | (show indep _ _ = true; kernel_rfl) | decide | exact ⟨by decide, by decide⟩ | exact ⟨Nat.le_of_ble_eq_true rfl, allOne_of rfl⟩ | exact allOne_of rfl | exact ⟨by omega, by omega⟩ | exact ⟨rfl, rfl⟩)
     | (apply Exists.intro; apply And.intro; · first | exact rfl | exact wakes_ok)
     | fail
    all_goals (conv => whnf)
    all_goals rfl
  case pos =>
    have c0 := newZ
    refine PTriple.of_body (C := cxW) Try.func8 rfl (by kernel_rfl) (mixedOf _) fun E hE => ?_
    repeat' (conv => whnf); first
     | (refine bcase_of (fun hr => ?_) (fun hr => ?_) <;> (try simp only [decide_eq_true_eq, decide_eq_false_iff_not, beq_iff_eq, beq_eq_false_iff_ne, ne_eq, bne_iff_ne, Bool.not_eq_true, ge_iff_le, gt_iff_lt] at hr) <;> try (exfalso; first | omega | exact hr rfl | (simp at hr; done) | (simp at hr; omega)))
     | (apply And.intro; · first | exact Nat.le_of_ble_eq_true rfl | (show indep _ _ = true; kernel_rfl) | decide | exact ⟨by decide, by decide⟩ | exact ⟨Nat.le_of_ble_eq_true rfl, allOne_of rfl⟩ | exact allOne_of rfl | exact ⟨by omega, by omega⟩ | exact ⟨rfl, rfl⟩)
     | (apply Exists.intro; apply And.intro; · first | exact rfl)
     | (apply Exists.intro; apply Exists.intro; apply Exists.intro; apply And.intro; · first | (refine ATriple.callN (c0) ?_ ?_ ?_ <;> rfl))
     | fail
    all_goals (conv => whnf)
    refine VLoop.norm [0, 3, 4] [19] ?_
    repeat' (conv => whnf); first
     | (apply And.intro; · first | exact Nat.le_of_ble_eq_true rfl | (show indep _ _ = true; kernel_rfl) | decide | exact pU)
     | (apply Exists.intro; apply And.intro; · first | exact rfl)
     | fail
    refine VLoop.inv (fun z : TZ × Nat => stWk l z.1 z.2) (fun z => z.2 ≤ l.length ∧ ZOk z.2 z.1 ∧ WI l z.2 z.1.ks) (fun z => l.length - z.2) ⟨TZ.new, 0⟩ ⟨Nat.zero_le _, ZOk.new, ⟨(fun e he => by cases he), fun j x h => by omega⟩⟩ rfl ?_
    rintro ⟨z, i⟩ ⟨hi, hz, hw1⟩ ih
    simp only at hi hz hw1 ih
    show VLoop cxW E _ (stWk l z i) _
    by_cases hgo : i < l.length
    case pos =>
      have hw : IntKind.i64.wrap ((i : Int) + 1) = ((i + 1 : Nat) : Int) := wrap64 (by omega) (by omega)
      obtain ⟨k, hk⟩ : ∃ a, l[i]? = some a := ⟨_, List.getElem?_eq_getElem hgo⟩
      have gk := getU hk
      obtain ⟨z2, cP, o2, e2⟩ := putZ hz (by omega) k i
      refine VLoop.unroll hE (mixedOf _) ?_
      repeat' (conv => whnf); first
       | (refine bcase_of (fun hr => ?_) (fun hr => ?_) <;> (try simp only [decide_eq_true_eq, decide_eq_false_iff_not, beq_iff_eq, beq_eq_false_iff_ne, ne_eq, bne_iff_ne, Bool.not_eq_true, ge_iff_le, gt_iff_lt] at hr) <;> try (exfalso; first | omega | exact hr rfl | (simp at hr; done) | (simp at hr; omega)))
       | (apply And.intro; · first | exact Nat.le_of_ble_eq_true rfl | (show indep _ _ = true; kernel_rfl) | decide | exact ⟨by decide, by decide⟩ | exact ⟨Nat.le_of_ble_eq_true rfl, allOne_of rfl⟩ | exact allOne_of rfl | exact ⟨by omega, by omega⟩ | exact ⟨rfl, rfl⟩ | exact ⟨by omega, by rw [lU]; omega⟩)
       | (apply Exists.intro; apply And.intro; · first | exact rfl | exact gk)
       | (apply Exists.intro; apply Exists.intro; apply Exists.intro; apply And.intro; · first | (refine ATriple.callN (cP) ?_ ?_ ?_ <;> rfl))
       | fail
      all_goals (conv => whnf)
      refine VLoop.norm [0, 3, 4] [19] ?_
      repeat' (conv => whnf); first
       | (apply And.intro; · first | exact Nat.le_of_ble_eq_true rfl | (show indep _ _ = true; kernel_rfl) | decide | exact pU)
       | (apply Exists.intro; apply And.intro; · first | exact rfl)
       | fail
      try rw [hw]
      exact ih ⟨z2, i + 1⟩ ⟨hgo, o2, by rw [e2]; exact hw1.step hz.ts.srt hk⟩ (by show l.length - (i + 1) < l.length - i; omega)
    case neg =>
      obtain rfl : i = l.length := by omega
      have hz2 := hz.le (show l.length ≤ 150 by omega)
      have hzk := hz.lk
      have cL := lenZ z
      have hsrt := hz.ts.srt
      clear ih
      refine VLoop.unroll hE (mixedOf _) ?_
      repeat' (conv => whnf); first
       | (refine bcase_of (fun hr => ?_) (fun hr => ?_) <;> (try simp only [decide_eq_true_eq, decide_eq_false_iff_not, beq_iff_eq, beq_eq_false_iff_ne, ne_eq, bne_iff_ne, Bool.not_eq_true, ge_iff_le, gt_iff_lt] at hr) <;> try (exfalso; first | omega | exact hr rfl | (simp at hr; done) | (simp at hr; omega)))
       | (apply And.intro; · first | exact Nat.le_of_ble_eq_true rfl | (show indep _ _ = true; kernel_rfl) | decide | exact ⟨by decide, by decide⟩ | exact ⟨Nat.le_of_ble_eq_true rfl, allOne_of rfl⟩ | exact allOne_of rfl | exact ⟨by omega, by omega⟩ | exact ⟨rfl, rfl⟩)
       | (apply Exists.intro; apply And.intro; · first | exact rfl)
       | fail
      all_goals (conv => whnf)
      refine VLoop.norm [0, 3, 5, 6, 7] [19] ?_
      repeat' (conv => whnf); first
       | (apply And.intro; · first | exact Nat.le_of_ble_eq_true rfl | (show indep _ _ = true; kernel_rfl) | decide | exact pU)
       | (apply Exists.intro; apply And.intro; · first | exact rfl)
       | fail
      refine VLoop.inv (fun y : ZW => stW2 l z y.n y.frm y.more) (fun y => WK z.ks y.n y.frm y.more y.A y.D) (fun y => y.D.length + (if y.more then 1 else 0)) ⟨0, 0, true, [], z.ks⟩ ⟨rfl, rfl, fun _ => ⟨(fun e he => by cases he), fun e he => ?_⟩, fun h => by cases h⟩ rfl ?_
      · obtain ⟨v, _, _, q, _⟩ := hw1.val e he
        exact (hbnd _ (List.mem_of_getElem? q)).1
      rintro ⟨n, frm, more, A, D⟩ ⟨heq, hlA, hyes, hno⟩ ih
      simp only at heq hlA hyes hno ih
      show VLoop cxW E _ (stW2 l z n frm more) _
      have hnl : n ≤ z.ks.length := by rw [heq]; simp; omega
      have hwn : IntKind.i64.wrap ((n : Int) + 1) = ((n + 1 : Nat) : Int) := wrap64 (by omega) (by omega)
      cases more with
      | false =>
        have hD := hno rfl
        have hnk : z.ks.length = n := by rw [heq, hD]; simp [hlA]
        rw [hnk] at cL
        clear ih
        refine VLoop.unroll hE (mixedOf _) ?_
        repeat' (conv => whnf); first
         | (refine bcase_of (fun hr => ?_) (fun hr => ?_) <;> (try simp only [decide_eq_true_eq, decide_eq_false_iff_not, beq_iff_eq, beq_eq_false_iff_ne, ne_eq, bne_iff_ne, Bool.not_eq_true, ge_iff_le, gt_iff_lt] at hr) <;> try (exfalso; first | omega | exact hr rfl | (simp at hr; done) | (simp at hr; omega)))
         | (apply And.intro; · first | exact Nat.le_of_ble_eq_true rfl | (show indep _ _ = true; kernel_rfl) | decide | exact ⟨by decide, by decide⟩ | exact ⟨Nat.le_of_ble_eq_true rfl, allOne_of rfl⟩ | exact allOne_of rfl | exact ⟨by omega, by omega⟩ | exact ⟨rfl, rfl⟩)
         | (apply Exists.intro; apply And.intro; · first | exact rfl)
         | (apply Exists.intro; apply Exists.intro; apply Exists.intro; apply And.intro; · first | (refine ATriple.callN (cL) ?_ ?_ ?_ <;> rfl))
         | fail
        all_goals (conv => whnf)
        refine VLoop.norm [0, 3, 12] [19] ?_
        repeat' (conv => whnf); first
         | (apply And.intro; · first | exact Nat.le_of_ble_eq_true rfl | (show indep _ _ = true; kernel_rfl) | decide | exact pU)
         | (apply Exists.intro; apply And.intro; · first | exact rfl)
         | fail
        refine VLoop.inv (fun j : Nat => stW4 l z j) (fun j => j ≤ l.length) (fun j => l.length - j) 0 (Nat.zero_le _) rfl ?_
        intro j hj ih
        have hw : IntKind.i64.wrap ((j : Int) + 1) = ((j + 1 : Nat) : Int) := wrap64 (by omega) (by omega)
        by_cases hgj : j < l.length
        case pos =>
          obtain ⟨y, hy⟩ : ∃ a, l[j]? = some a := ⟨_, List.getElem?_eq_getElem hgj⟩
          have gy := getU hy
          have cG := getZ hz2 (by omega) y
          rw [hw1.all j y (by omega) hy] at cG
          refine VLoop.unroll hE (mixedOf _) ?_
          repeat' (conv => whnf); first
           | (refine bcase_of (fun hr => ?_) (fun hr => ?_) <;> (try simp only [decide_eq_true_eq, decide_eq_false_iff_not, beq_iff_eq, beq_eq_false_iff_ne, ne_eq, bne_iff_ne, Bool.not_eq_true, ge_iff_le, gt_iff_lt] at hr) <;> try (exfalso; first | omega | exact hr rfl | (simp at hr; done) | (simp at hr; omega)))
           | (apply And.intro; · first | exact Nat.le_of_ble_eq_true rfl | (show indep _ _ = true; kernel_rfl) | decide | exact ⟨by decide, by decide⟩ | exact ⟨Nat.le_of_ble_eq_true rfl, allOne_of rfl⟩ | exact allOne_of rfl | exact ⟨by omega, by omega⟩ | exact ⟨rfl, rfl⟩ | exact ⟨by omega, by rw [lU]; omega⟩)
           | (apply Exists.intro; apply And.intro; · first | exact rfl | exact gy)
           | (apply Exists.intro; apply Exists.intro; apply Exists.intro; apply And.intro; · first | (refine ATriple.callN (cG) ?_ ?_ ?_ <;> rfl))
           | fail
          all_goals (conv => whnf)
          refine VLoop.norm [0, 3, 12] [19] ?_
          repeat' (conv => whnf); first
           | (apply And.intro; · first | exact Nat.le_of_ble_eq_true rfl | (show indep _ _ = true; kernel_rfl) | decide | exact pU)
           | (apply Exists.intro; apply And.intro; · first | exact rfl)
           | fail
          try rw [hw]
          exact ih (j + 1) hgj (by omega)
        case neg =>
          refine VLoop.unroll hE (mixedOf _) ?_
          repeat' (conv => whnf); first
           | (refine bcase_of (fun hr => ?_) (fun hr => ?_) <;> (try simp only [decide_eq_true_eq, decide_eq_false_iff_not, beq_iff_eq, beq_eq_false_iff_ne, ne_eq, bne_iff_ne, Bool.not_eq_true, ge_iff_le, gt_iff_lt] at hr) <;> try (exfalso; first | omega | exact hr rfl | (simp at hr; done) | (simp at hr; omega)))
           | (apply And.intro; · first | exact Nat.le_of_ble_eq_true rfl | (show indep _ _ = true; kernel_rfl) | decide | exact ⟨by decide, by decide⟩ | exact ⟨Nat.le_of_ble_eq_true rfl, allOne_of rfl⟩ | exact allOne_of rfl | exact ⟨by omega, by omega⟩ | exact ⟨rfl, rfl⟩)
           | (apply Exists.intro; apply And.intro; · first | exact rfl | exact wakes_ok)
           | fail
          all_goals (conv => whnf)
          all_goals rfl
      | true =>
        obtain ⟨hA, hDl⟩ := hyes rfl
        have cN := nextZ hz2 (by omega) frm
        rw [heq, nx_left hA] at cN
        cases D with
        | nil =>
          have hnk : z.ks.length = n := by rw [heq]; simp [hlA]
          rw [hnk] at cL
          have hnx : nx [] frm = none := rfl
          rw [hnx] at cN
          clear ih
          refine VLoop.unroll hE (mixedOf _) ?_
          repeat' (conv => whnf); first
           | (refine bcase_of (fun hr => ?_) (fun hr => ?_) <;> (try simp only [decide_eq_true_eq, decide_eq_false_iff_not, beq_iff_eq, beq_eq_false_iff_ne, ne_eq, bne_iff_ne, Bool.not_eq_true, ge_iff_le, gt_iff_lt] at hr) <;> try (exfalso; first | omega | exact hr rfl | (simp at hr; done) | (simp at hr; omega)))
           | (apply And.intro; · first | exact Nat.le_of_ble_eq_true rfl | (show indep _ _ = true; kernel_rfl) | decide | exact ⟨by decide, by decide⟩ | exact ⟨Nat.le_of_ble_eq_true rfl, allOne_of rfl⟩ | exact allOne_of rfl | exact ⟨by omega, by omega⟩ | exact ⟨rfl, rfl⟩)
           | (apply Exists.intro; apply And.intro; · first | exact rfl)
           | (apply Exists.intro; apply Exists.intro; apply Exists.intro; apply And.intro; · first | (refine ATriple.callN (cN) ?_ ?_ ?_ <;> rfl) | (refine ATriple.callN (cL) ?_ ?_ ?_ <;> rfl))
           | fail
          all_goals (conv => whnf)
          refine VLoop.norm [0, 3, 12] [19] ?_
          repeat' (conv => whnf); first
           | (apply And.intro; · first | exact Nat.le_of_ble_eq_true rfl | (show indep _ _ = true; kernel_rfl) | decide | exact pU)
           | (apply Exists.intro; apply And.intro; · first | exact rfl)
           | fail
          refine VLoop.inv (fun j : Nat => stW4 l z j) (fun j => j ≤ l.length) (fun j => l.length - j) 0 (Nat.zero_le _) rfl ?_
          intro j hj ih
          have hw : IntKind.i64.wrap ((j : Int) + 1) = ((j + 1 : Nat) : Int) := wrap64 (by omega) (by omega)
          by_cases hgj : j < l.length
          case pos =>
            obtain ⟨y, hy⟩ : ∃ a, l[j]? = some a := ⟨_, List.getElem?_eq_getElem hgj⟩
            have gy := getU hy
            have cG := getZ hz2 (by omega) y
            rw [hw1.all j y (by omega) hy] at cG
            refine VLoop.unroll hE (mixedOf _) ?_
            repeat' (conv => whnf); first
             | (refine bcase_of (fun hr => ?_) (fun hr => ?_) <;> (try simp only [decide_eq_true_eq, decide_eq_false_iff_not, beq_iff_eq, beq_eq_false_iff_ne, ne_eq, bne_iff_ne, Bool.not_eq_true, ge_iff_le, gt_iff_lt] at hr) <;> try (exfalso; first | omega | exact hr rfl | (simp at hr; done) | (simp at hr; omega)))
             | (apply And.intro; · first | exact Nat.le_of_ble_eq_true rfl | (show indep _ _ = true; kernel_rfl) | decide | exact ⟨by decide, by decide⟩ | exact ⟨Nat.le_of_ble_eq_true rfl, allOne_of rfl⟩ | exact allOne_of rfl | exact ⟨by omega, by omega⟩ | exact ⟨rfl, rfl⟩ | exact ⟨by omega, by rw [lU]; omega⟩)
             | (apply Exists.intro; apply And.intro; · first | exact rfl | exact gy)
             | (apply Exists.intro; apply Exists.intro; apply Exists.intro; apply And.intro; · first | (refine ATriple.callN (cG) ?_ ?_ ?_ <;> rfl))
             | fail
            all_goals (conv => whnf)
            refine VLoop.norm [0, 3, 12] [19] ?_
            repeat' (conv => whnf); first
             | (apply And.intro; · first | exact Nat.le_of_ble_eq_true rfl | (show indep _ _ = true; kernel_rfl) | decide | exact pU)
             | (apply Exists.intro; apply And.intro; · first | exact rfl)
             | fail
            try rw [hw]
            exact ih (j + 1) hgj (by omega)
          case neg =>
            refine VLoop.unroll hE (mixedOf _) ?_
            repeat' (conv => whnf); first
             | (refine bcase_of (fun hr => ?_) (fun hr => ?_) <;> (try simp only [decide_eq_true_eq, decide_eq_false_iff_not, beq_iff_eq, beq_eq_false_iff_ne, ne_eq, bne_iff_ne, Bool.not_eq_true, ge_iff_le, gt_iff_lt] at hr) <;> try (exfalso; first | omega | exact hr rfl | (simp at hr; done) | (simp at hr; omega)))
             | (apply And.intro; · first | exact Nat.le_of_ble_eq_true rfl | (show indep _ _ = true; kernel_rfl) | decide | exact ⟨by decide, by decide⟩ | exact ⟨Nat.le_of_ble_eq_true rfl, allOne_of rfl⟩ | exact allOne_of rfl | exact ⟨by omega, by omega⟩ | exact ⟨rfl, rfl⟩)
             | (apply Exists.intro; apply And.intro; · first | exact rfl | exact wakes_ok)
             | fail
            all_goals (conv => whnf)
            all_goals rfl
        | cons e D' =>
          have hfe := hDl e (by simp)
          have hnx : nx (e :: D') frm = some e := by unfold nx; rw [List.find?_cons_of_pos (by simpa using hfe)]
          rw [hnx] at cN
          obtain ⟨v, q1, q2, q3, q4⟩ := hw1.val e (by rw [heq]; simp)
          obtain ⟨k, vv⟩ := e
          simp only at q1 q3 q4 hfe
          subst q1
          have gv' := getU q3
          obtain ⟨hk0, hk1⟩ := hbnd k (List.mem_of_getElem? q3)
          have hwv : IntKind.i64.wrap ((v : Int) + 1) = ((v + 1 : Nat) : Int) := wrap64 (by omega) (by omega)
          refine VLoop.unroll hE (mixedOf _) ?_
          repeat' (conv => whnf); first
           | (refine bcase_of (fun hr => ?_) (fun hr => ?_) <;> (try simp only [decide_eq_true_eq, decide_eq_false_iff_not, beq_iff_eq, beq_eq_false_iff_ne, ne_eq, bne_iff_ne, Bool.not_eq_true, ge_iff_le, gt_iff_lt] at hr) <;> try (exfalso; first | omega | exact hr rfl | (simp at hr; done) | (simp at hr; omega)))
           | (apply And.intro; · first | exact Nat.le_of_ble_eq_true rfl | (show indep _ _ = true; kernel_rfl) | decide | exact ⟨by decide, by decide⟩ | exact ⟨Nat.le_of_ble_eq_true rfl, allOne_of rfl⟩ | exact allOne_of rfl | exact ⟨by omega, by omega⟩ | exact ⟨rfl, rfl⟩ | exact ⟨by omega, by rw [lU]; omega⟩)
           | (apply Exists.intro; apply And.intro; · first | exact rfl | exact gv')
           | rw [hwv]
           | (apply Exists.intro; apply Exists.intro; apply Exists.intro; apply And.intro; · first | (refine ATriple.callN (cN) ?_ ?_ ?_ <;> rfl))
           | fail
          all_goals (conv => whnf)
          refine VLoop.norm [0, 3, 5, 8, 9, 11] [19] ?_
          repeat' (conv => whnf); first
           | (apply And.intro; · first | exact Nat.le_of_ble_eq_true rfl | (show indep _ _ = true; kernel_rfl) | decide | exact pU)
           | (apply Exists.intro; apply And.intro; · first | exact rfl)
           | fail
          refine VLoop.inv (fun j : Nat => stW3 l z n k v j) (fun j => v + 1 ≤ j ∧ j ≤ l.length) (fun j => l.length - j) (v + 1) ⟨Nat.le_refl _, by omega⟩ (by first | rfl | (rw [hwv]; rfl)) ?_
          intro j ⟨hj1, hj2⟩ ihj
          by_cases hgj : j < l.length
          case pos =>
            have hw : IntKind.i64.wrap ((j : Int) + 1) = ((j + 1 : Nat) : Int) := wrap64 (by omega) (by omega)
            obtain ⟨y, hy⟩ : ∃ a, l[j]? = some a := ⟨_, List.getElem?_eq_getElem hgj⟩
            have gy := getU hy
            have hne : y ≠ k := fun e => q4 j (by omega) (by omega) (by rw [hy, e])
            refine VLoop.unroll hE (mixedOf _) ?_
            repeat' (conv => whnf); first
             | (refine bcase_of (fun hr => ?_) (fun hr => ?_) <;> (try simp only [decide_eq_true_eq, decide_eq_false_iff_not, beq_iff_eq, beq_eq_false_iff_ne, ne_eq, bne_iff_ne, Bool.not_eq_true, ge_iff_le, gt_iff_lt] at hr) <;> try (exfalso; first | omega | exact hr rfl | (simp at hr; done) | (simp at hr; omega)))
             | (apply And.intro; · first | exact Nat.le_of_ble_eq_true rfl | (show indep _ _ = true; kernel_rfl) | decide | exact ⟨by decide, by decide⟩ | exact ⟨Nat.le_of_ble_eq_true rfl, allOne_of rfl⟩ | exact allOne_of rfl | exact ⟨by omega, by omega⟩ | exact ⟨rfl, rfl⟩ | exact ⟨by omega, by rw [lU]; omega⟩)
             | (apply Exists.intro; apply And.intro; · first | exact rfl | exact gy)
             | fail
            all_goals (conv => whnf)
            refine VLoop.norm [0, 3, 5, 8, 9, 11] [19] ?_
            repeat' (conv => whnf); first
             | (apply And.intro; · first | exact Nat.le_of_ble_eq_true rfl | (show indep _ _ = true; kernel_rfl) | decide | exact pU)
             | (apply Exists.intro; apply And.intro; · first | exact rfl)
             | fail
            try rw [hw]
            exact ihj (j + 1) ⟨by omega, hgj⟩ (by omega)
          case neg =>
            clear ihj
            have hDs : ∀ e ∈ D', k < e.1 := by
              rw [heq] at hsrt
              exact (List.pairwise_cons.1 (List.pairwise_append.1 hsrt).2.1).1
            by_cases hkm : k < 4294967295
            case pos =>
              have hwk : IntKind.u32.wrap (k + 1) = k + 1 := wrap32 (by omega) (by omega)
              have hI : WK z.ks (n + 1) (k + 1) true (A ++ [(k, (v : Int))]) D' := ⟨by rw [heq]; simp, by simp [hlA], fun _ => ⟨fun e he => (by
                rcases List.mem_append.1 he with he | he
                · have := hA e he; omega
                · rw [List.mem_singleton.1 he]; show k < k + 1; omega), fun e he => (by have := hDs e he; omega)⟩, fun h => by cases h⟩
              refine VLoop.unroll hE (mixedOf _) ?_
              repeat' (conv => whnf); first
               | (refine bcase_of (fun hr => ?_) (fun hr => ?_) <;> (try simp only [decide_eq_true_eq, decide_eq_false_iff_not, beq_iff_eq, beq_eq_false_iff_ne, ne_eq, bne_iff_ne, Bool.not_eq_true, ge_iff_le, gt_iff_lt] at hr) <;> try (exfalso; first | omega | exact hr rfl | (simp at hr; done) | (simp at hr; omega)))
               | (apply And.intro; · first | exact Nat.le_of_ble_eq_true rfl | (show indep _ _ = true; kernel_rfl) | decide | exact ⟨by decide, by decide⟩ | exact ⟨Nat.le_of_ble_eq_true rfl, allOne_of rfl⟩ | exact allOne_of rfl | exact ⟨by omega, by omega⟩ | exact ⟨rfl, rfl⟩)
               | (apply Exists.intro; apply And.intro; · first | exact rfl)
               | rw [hwk]
               | rw [hwn]
               | fail
              all_goals (conv => whnf)
              refine VLoop.norm [0, 3, 5, 6, 7] [19] ?_
              repeat' (conv => whnf); first
               | (apply And.intro; · first | exact Nat.le_of_ble_eq_true rfl | (show indep _ _ = true; kernel_rfl) | decide | exact pU)
               | (apply Exists.intro; apply And.intro; · first | exact rfl)
               | fail
              try rw [hwk]
              try rw [hwn]
              exact ih ⟨n + 1, k + 1, true, A ++ [(k, (v : Int))], D'⟩ hI (by show D'.length + 1 < (D'.length + 1) + 1; omega)
            case neg =>
              have hD0 : D' = [] := by
                cases D' with
                | nil => rfl
                | cons f r =>
                  have h1 := hDs f (by simp)
                  obtain ⟨v2, _, _, q, _⟩ := hw1.val f (by rw [heq]; simp)
                  have := (hbnd _ (List.mem_of_getElem? q)).2
                  omega
              subst hD0
              obtain ⟨fr2, hfr2⟩ : ∃ f, f = IntKind.u32.wrap (k + 1) := ⟨_, rfl⟩
              have hI : WK z.ks (n + 1) fr2 false (A ++ [(k, (v : Int))]) [] := ⟨by rw [heq]; simp, by simp [hlA], (fun h => by cases h), fun _ => rfl⟩
              refine VLoop.unroll hE (mixedOf _) ?_
              repeat' (conv => whnf); first
               | (refine bcase_of (fun hr => ?_) (fun hr => ?_) <;> (try simp only [decide_eq_true_eq, decide_eq_false_iff_not, beq_iff_eq, beq_eq_false_iff_ne, ne_eq, bne_iff_ne, Bool.not_eq_true, ge_iff_le, gt_iff_lt] at hr) <;> try (exfalso; first | omega | exact hr rfl | (simp at hr; done) | (simp at hr; omega)))
               | (apply And.intro; · first | exact Nat.le_of_ble_eq_true rfl | (show indep _ _ = true; kernel_rfl) | decide | exact ⟨by decide, by decide⟩ | exact ⟨Nat.le_of_ble_eq_true rfl, allOne_of rfl⟩ | exact allOne_of rfl | exact ⟨by omega, by omega⟩ | exact ⟨rfl, rfl⟩)
               | (apply Exists.intro; apply And.intro; · first | exact rfl)
               | rw [hwn]
               | fail
              all_goals (conv => whnf)
              refine VLoop.norm [0, 3, 5, 6, 7] [19] ?_
              repeat' (conv => whnf); first
               | (apply And.intro; · first | exact Nat.le_of_ble_eq_true rfl | (show indep _ _ = true; kernel_rfl) | decide | exact pU)
               | (apply Exists.intro; apply And.intro; · first | exact rfl)
               | fail
              try rw [hwn]
              rw [← hfr2]
              exact ih ⟨n + 1, fr2, false, A ++ [(k, (v : Int))], []⟩ hI (by show 0 + 0 < (0 + 1) + 1; omega)
end Go.Proofs.Ytbppemcdphgknaa.T
/- Chapter 16: TreeOrders. -/
namespace Go.Proofs.Ytbppemcdphgknaa.T
open Go Go.Vm
set_option maxRecDepth 100000
set_option maxHeartbeats 40000000
set_option linter.unusedSimpArgs false
set_option linter.unusedVariables false
theorem srt_ext : ∀ {a b : PL}, Srt a → Srt b → (∀ e, e ∈ a ↔ e ∈ b) → a = b
  | [], [], _, _, _ => rfl
  | [], y :: b, _, _, h => by have := (h y).2 (by simp); cases this
  | x :: a, [], _, _, h => by have := (h x).1 (by simp); cases this
  | x :: a, y :: b, ha, hb, h => by
    have ha' := List.pairwise_cons.1 ha
    have hb' := List.pairwise_cons.1 hb
    have hxy : x = y := by
      rcases List.mem_cons.1 ((h x).1 (by simp)) with e | h1
      · exact e
      · rcases List.mem_cons.1 ((h y).2 (by simp)) with e | h2
        · exact e.symm
        · have := hb'.1 x h1; have := ha'.1 y h2; omega
    subst hxy
    congr 1
    refine srt_ext ha'.2 hb'.2 fun e => ⟨fun he => ?_, fun he => ?_⟩
    · rcases List.mem_cons.1 ((h e).1 (by simp [he])) with rfl | h1
      · have := ha'.1 e he; omega
      · exact h1
    · rcases List.mem_cons.1 ((h e).2 (by simp [he])) with rfl | h1
      · have := hb'.1 e he; omega
      · exact h1
/-- Keys of l, each with its rest by 1000; p tells which are there. -/
structure OI (l : List Int) (ks : PL) : Prop where
  val : ∀ e ∈ ks, e.2 = e.1.tmod 1000 ∧ e.1 ∈ l
theorem OI.step {l : List Int} {ks : PL} {x : Int} (h : OI l ks) (hs : Srt ks) (hx : x ∈ l) : OI l (lay ks x (x.tmod 1000)) := ⟨fun e he => by
  rcases (mem_lay_iff hs).1 he with rfl | ⟨he, _⟩
  · exact ⟨rfl, hx⟩
  · exact h.val e he⟩
theorem OI.same {l : List Int} {a b : PL} (ha : OI l a) (hb : OI l b) (sa : Srt a) (sb : Srt b) (fa : ∀ x ∈ l, has a x = true) (fb : ∀ x ∈ l, has b x = true) : a = b := by
  have key : ∀ {a b : PL}, OI l a → OI l b → Srt b → (∀ x ∈ l, has b x = true) → ∀ e, e ∈ a → e ∈ b := fun {a b} ha hb sb fb e he => by
    obtain ⟨e1, e2⟩ := ha.val e he
    obtain ⟨v, hv⟩ := (has_iff sb).1 (fb _ e2)
    have := (hb.val _ hv).1
    have e3 : v = e.2 := by rw [e1]; exact this
    rw [e3] at hv
    exact hv
  exact srt_ext sa sb fun e => ⟨key ha hb sb fb e, key hb ha sa fa e⟩
theorem rot {n k q : Nat} (hk : k ≤ n) (hq : q < n) : ∃ j, j < n ∧ (j + k) % n = q := by
  by_cases h : k ≤ q
  · exact ⟨q - k, by omega, by rw [Nat.sub_add_cancel h]; exact Nat.mod_eq_of_lt hq⟩
  · exact ⟨q + n - k, by omega, by rw [Nat.sub_add_cancel (by omega), Nat.add_mod_right]; exact Nat.mod_eq_of_lt hq⟩
def stO1 (l : List Int) (ask : Int) (k : Nat) (za zb : TZ) (i : Nat) : St DV := mkSt 150 [(0, uV l), (2, u32V ask), (7, i64V k), (8, .ref (35, 1) 0), (9, .ref (36, 1) 0), (10, i64V i)] [(34, .abs (trZ za)), (35, .abs (trZ zb))] []
def stO2 (l : List Int) (ask : Int) (za zb : TZ) (m : Nat) : St DV := mkSt 150 [(0, uV l), (2, u32V ask), (8, .ref (35, 1) 0), (9, .ref (36, 1) 0), (12, i64V ((m : Int) - 1))] [(34, .abs (trZ za)), (35, .abs (trZ zb))] []
structure ZO where
  a : TZ
  b : TZ
  i : Nat
structure IO (l : List Int) (k : Nat) (z : ZO) : Prop where
  le : z.i ≤ l.length
  oa : ZOk z.i z.a
  ob : ZOk z.i z.b
  va : OI l z.a.ks
  vb : OI l z.b.ks
  fa : ∀ j x, j < z.i → l[j]? = some x → has z.a.ks x = true
  fb : ∀ j x, j < z.i → l[l.length - 1 - (j + k) % l.length]? = some x → has z.b.ks x = true
theorem orders16_ok (l : List Int) (at_ ask : Int) (hat : 0 ≤ at_ ∧ at_ ≤ 255) (hbnd : ∀ x ∈ l, 0 ≤ x ∧ x ≤ 4294967295) : PTriple Try.prog gv 9 [uV l, .int .u8 at_, u32V ask] (.bool true) := by
  have pU := pure_U l
  have lU := lenU l
  by_cases hlen : l.length ≤ 150
  case neg =>
    refine PTriple.of_body (C := cxW) Try.func9 rfl (by kernel_rfl) (mixedOf _) fun E hE => ?_
    repeat' (conv => whnf); first
     | (refine bcase_of (fun hr => ?_) (fun hr => ?_) <;> (try simp only [decide_eq_true_eq, decide_eq_false_iff_not, beq_iff_eq, beq_eq_false_iff_ne, ne_eq, bne_iff_ne, Bool.not_eq_true, ge_iff_le, gt_iff_lt] at hr) <;> try (exfalso; first | omega | exact hr rfl | (simp at hr; done) | (simp at hr; omega)))
     | (apply And.intro; · first | exact Nat.le_of_ble_eq_true rfl | (show indep _ _ = true; kernel_rfl) | decide | exact ⟨by decide, by decide⟩ | exact ⟨Nat.le_of_ble_eq_true rfl, allOne_of rfl⟩ | exact allOne_of rfl | exact ⟨by omega, by omega⟩ | exact ⟨rfl, rfl⟩)
     | (apply Exists.intro; apply And.intro; · first | exact rfl | exact wakes_ok)
     | fail
    all_goals (conv => whnf)
    all_goals rfl
  case pos =>
    have c0 := newZ
    obtain ⟨n, rfl⟩ := Int.eq_ofNat_of_zero_le hat.1
    have hwl : IntKind.i64.wrap (((encU l).length : Int) + 1) = ((l.length + 1 : Nat) : Int) := by rw [lU]; exact wrap64 (by omega) (by omega)
    obtain ⟨k, hk⟩ : ∃ k, k = n % (l.length + 1) := ⟨_, rfl⟩
    have hkl : k ≤ l.length := by have := Nat.mod_lt n (show l.length + 1 > 0 by omega); omega
    have hkk : (IntKind.i64.wrap (n : Int)).tmod ((l.length + 1 : Nat) : Int) = (k : Int) := by rw [wrap64 (by omega) (by omega), hk]; rfl
    refine PTriple.of_body (C := cxW) Try.func9 rfl (by kernel_rfl) (mixedOf _) fun E hE => ?_
    repeat' (conv => whnf); first
     | (refine bcase_of (fun hr => ?_) (fun hr => ?_) <;> (try simp only [decide_eq_true_eq, decide_eq_false_iff_not, beq_iff_eq, beq_eq_false_iff_ne, ne_eq, bne_iff_ne, Bool.not_eq_true, ge_iff_le, gt_iff_lt] at hr) <;> try (exfalso; first | omega | exact hr rfl | (simp at hr; done) | (simp at hr; omega)))
     | (apply And.intro; · first | exact Nat.le_of_ble_eq_true rfl | (show indep _ _ = true; kernel_rfl) | decide | exact ⟨by decide, by decide⟩ | exact ⟨Nat.le_of_ble_eq_true rfl, allOne_of rfl⟩ | exact allOne_of rfl | exact ⟨by omega, by omega⟩ | exact ⟨rfl, rfl⟩ | exact (by omega))
     | (apply Exists.intro; apply And.intro; · first | exact rfl)
     | rw [hwl]
     | rw [hkk]
     | (apply Exists.intro; apply Exists.intro; apply Exists.intro; apply And.intro; · first | (refine ATriple.callN (c0) ?_ ?_ ?_ <;> rfl))
     | fail
    all_goals (conv => whnf)
    refine VLoop.norm [0, 2, 7, 8, 9, 10] [34, 35] ?_
    repeat' (conv => whnf); first
     | (apply And.intro; · first | exact Nat.le_of_ble_eq_true rfl | (show indep _ _ = true; kernel_rfl) | decide | exact pU)
     | (apply Exists.intro; apply And.intro; · first | exact rfl)
     | fail
    refine VLoop.inv (fun z : ZO => stO1 l ask k z.a z.b z.i) (fun z => IO l k z) (fun z => l.length - z.i) ⟨TZ.new, TZ.new, 0⟩ ⟨Nat.zero_le _, ZOk.new, ZOk.new, ⟨fun e he => by cases he⟩, ⟨fun e he => by cases he⟩, fun j x h => absurd h (Nat.not_lt_zero _), fun j x h => absurd h (Nat.not_lt_zero _)⟩ (by first | rfl | (rw [hwl, hkk]; rfl)) ?_
    rintro ⟨za, zb, i⟩ ⟨hi, oa, ob, va, vb, fa, fb⟩ ih
    simp only at hi oa ob va vb fa fb ih
    show VLoop cxW E _ (stO1 l ask k za zb i) _
    by_cases hgo : i < l.length
    case pos =>
      have hw : IntKind.i64.wrap ((i : Int) + 1) = ((i + 1 : Nat) : Int) := wrap64 (by omega) (by omega)
      obtain ⟨x, hx⟩ : ∃ a, l[i]? = some a := ⟨_, List.getElem?_eq_getElem hgo⟩
      have gx := getU hx
      have hq := Nat.mod_lt (i + k) (show l.length > 0 by omega)
      have hik : IntKind.i64.wrap ((i : Int) + (k : Int)) = ((i + k : Nat) : Int) := wrap64 (by omega) (by omega)
      have hmod : Int.tmod ((i + k : Nat) : Int) ((encU l).length : Int) = (((i + k) % l.length : Nat) : Int) := by rw [lU]; rfl
      have hfb : ∀ j y, j < i + 1 → l[l.length - 1 - (j + k) % l.length]? = some y → (j < i ∧ l[l.length - 1 - (j + k) % l.length]? = some y) ∨ j = i := fun j y h1 h2 => by
        by_cases h : j = i
        · exact .inr h
        · exact .inl ⟨by omega, h2⟩
      obtain ⟨q, hqe⟩ : ∃ q, q = (i + k) % l.length := ⟨_, rfl⟩
      rw [← hqe] at hq hmod
      have hl1 : IntKind.i64.wrap (((encU l).length : Int) - 1) = ((l.length - 1 : Nat) : Int) := by rw [lU, wrap64 (by omega) (by omega)]; omega
      have hl2 : IntKind.i64.wrap (((l.length - 1 : Nat) : Int) - (q : Int)) = ((l.length - 1 - q : Nat) : Int) := by rw [wrap64 (by omega) (by omega)]; omega
      obtain ⟨y, hy⟩ : ∃ a, l[l.length - 1 - q]? = some a := ⟨_, List.getElem?_eq_getElem (by omega)⟩
      have gy := getU hy
      have hxm := List.mem_of_getElem? hx
      have hym := List.mem_of_getElem? hy
      have hwx : IntKind.i64.wrap (x.tmod 1000) = x.tmod 1000 := by
        have := hbnd x hxm
        rw [Int.tmod_eq_emod_of_nonneg (by omega)]
        exact wrap64 (by omega) (by omega)
      have hwy : IntKind.i64.wrap (y.tmod 1000) = y.tmod 1000 := by
        have := hbnd y hym
        rw [Int.tmod_eq_emod_of_nonneg (by omega)]
        exact wrap64 (by omega) (by omega)
      have va2 := va.step oa.ts.srt hxm
      have vb2 := vb.step ob.ts.srt hym
      have fa2 : ∀ j u, j < i + 1 → l[j]? = some u → has (lay za.ks x (x.tmod 1000)) u = true := fun j u h1 h2 => by
        rw [has_lay oa.ts.srt]
        by_cases h : j = i
        · subst h; rw [hx] at h2; exact .inl (Option.some.inj h2).symm
        · exact .inr (fa j u (by omega) h2)
      have fb2 : ∀ j u, j < i + 1 → l[l.length - 1 - (j + k) % l.length]? = some u → has (lay zb.ks y (y.tmod 1000)) u = true := fun j u h1 h2 => by
        rw [has_lay ob.ts.srt]
        by_cases h : j = i
        · subst h; rw [← hqe, hy] at h2; exact .inl (Option.some.inj h2).symm
        · exact .inr (fb j u (by omega) h2)
      obtain ⟨za2, cA, oa2, ea2⟩ := putZ oa (by omega) x (x.tmod 1000)
      obtain ⟨zb2, cB, ob2, eb2⟩ := putZ ob (by omega) y (y.tmod 1000)
      rw [← ea2] at va2 fa2
      rw [← eb2] at vb2 fb2
      refine VLoop.unroll hE (mixedOf _) ?_
      repeat' (conv => whnf); first
       | (refine bcase_of (fun hr => ?_) (fun hr => ?_) <;> (try simp only [decide_eq_true_eq, decide_eq_false_iff_not, beq_iff_eq, beq_eq_false_iff_ne, ne_eq, bne_iff_ne, Bool.not_eq_true, ge_iff_le, gt_iff_lt] at hr) <;> try (exfalso; first | omega | exact hr rfl | (simp at hr; done) | (simp at hr; omega)))
       | (apply And.intro; · first | exact Nat.le_of_ble_eq_true rfl | (show indep _ _ = true; kernel_rfl) | decide | exact ⟨by decide, by decide⟩ | exact ⟨Nat.le_of_ble_eq_true rfl, allOne_of rfl⟩ | exact allOne_of rfl | exact ⟨by omega, by omega⟩ | exact ⟨rfl, rfl⟩ | exact ⟨by omega, by rw [lU]; omega⟩ | exact (by rw [lU]; omega))
       | (apply Exists.intro; apply And.intro; · first | exact rfl | exact gx | exact gy)
       | rw [hik]
       | rw [hmod]
       | rw [hl1]
       | rw [hl2]
       | rw [hwx]
       | rw [hwy]
       | (apply Exists.intro; apply Exists.intro; apply Exists.intro; apply And.intro; · first | (refine ATriple.callN (cA) ?_ ?_ ?_ <;> rfl) | (refine ATriple.callN (cB) ?_ ?_ ?_ <;> rfl))
       | fail
      all_goals (conv => whnf)
      refine VLoop.norm [0, 2, 7, 8, 9, 10] [34, 35] ?_
      repeat' (conv => whnf); first
       | (apply And.intro; · first | exact Nat.le_of_ble_eq_true rfl | (show indep _ _ = true; kernel_rfl) | decide | exact pU)
       | (apply Exists.intro; apply And.intro; · first | exact rfl)
       | fail
      try rw [hw]
      exact ih ⟨za2, zb2, i + 1⟩ ⟨hgo, oa2, ob2, va2, vb2, fa2, fb2⟩ (by show l.length - (i + 1) < l.length - i; omega)
    case neg =>
      obtain rfl : i = l.length := by omega
      have oa2 := oa.le (show l.length ≤ 150 by omega)
      have ob2 := ob.le (show l.length ≤ 150 by omega)
      have hab : zb.ks = za.ks := by
        refine OI.same vb va ob.ts.srt oa.ts.srt (fun x hx => ?_) fun x hx => ?_
        · obtain ⟨p, hp, hpx⟩ := List.getElem_of_mem hx
          obtain ⟨j, hj, hjk⟩ := rot hkl (show l.length - 1 - p < l.length by omega)
          exact fb j x hj (by rw [hjk, show l.length - 1 - (l.length - 1 - p) = p by omega, List.getElem?_eq_getElem hp, hpx])
        · obtain ⟨p, hp, hpx⟩ := List.getElem_of_mem hx
          exact fa p x hp (by rw [List.getElem?_eq_getElem hp, hpx])
      have cLa := lenZ za
      have cLb := lenZ zb
      rw [hab] at cLb
      clear ih
      refine VLoop.unroll hE (mixedOf _) ?_
      repeat' (conv => whnf); first
       | (refine bcase_of (fun hr => ?_) (fun hr => ?_) <;> (try simp only [decide_eq_true_eq, decide_eq_false_iff_not, beq_iff_eq, beq_eq_false_iff_ne, ne_eq, bne_iff_ne, Bool.not_eq_true, ge_iff_le, gt_iff_lt] at hr) <;> try (exfalso; first | omega | exact hr rfl | (simp at hr; done) | (simp at hr; omega)))
       | (apply And.intro; · first | exact Nat.le_of_ble_eq_true rfl | (show indep _ _ = true; kernel_rfl) | decide | exact ⟨by decide, by decide⟩ | exact ⟨Nat.le_of_ble_eq_true rfl, allOne_of rfl⟩ | exact allOne_of rfl | exact ⟨by omega, by omega⟩ | exact ⟨rfl, rfl⟩)
       | (apply Exists.intro; apply And.intro; · first | exact rfl)
       | fail
      all_goals (conv => whnf)
      refine VLoop.norm [0, 2, 8, 9, 12] [34, 35] ?_
      repeat' (conv => whnf); first
       | (apply And.intro; · first | exact Nat.le_of_ble_eq_true rfl | (show indep _ _ = true; kernel_rfl) | decide | exact pU)
       | (apply Exists.intro; apply And.intro; · first | exact rfl)
       | fail
      refine VLoop.inv (fun m : Nat => stO2 l ask za zb m) (fun m => m ≤ l.length + 1) (fun m => l.length + 1 - m) 0 (Nat.zero_le _) rfl ?_
      intro m hm ih
      have hw : IntKind.i64.wrap (((m : Int) - 1) + 1) = ((m + 1 : Nat) : Int) - 1 := by rw [wrap64 (by omega) (by omega)]; omega
      by_cases hgm : m < l.length + 1
      case pos =>
        have main : ∀ (x : Int) , ATriple Try.prog gv R0 39 [.ref (0, 0) 0, u32V x] [.abs (trZ za)] (.tup [i64V (gt za.ks x), .bool (has za.ks x)]) [.abs (trZ za)] none ∧ ATriple Try.prog gv R0 39 [.ref (0, 0) 0, u32V x] [.abs (trZ zb)] (.tup [i64V (gt za.ks x), .bool (has za.ks x)]) [.abs (trZ zb)] none ∧ ATriple Try.prog gv R0 37 [.ref (0, 0) 0, u32V x] [.abs (trZ za)] (nxV (nx za.ks x)) [.abs (trZ za)] none ∧ ATriple Try.prog gv R0 37 [.ref (0, 0) 0, u32V x] [.abs (trZ zb)] (nxV (nx za.ks x)) [.abs (trZ zb)] none := fun x => by
          have h1 := getZ ob2 (by omega) x
          have h2 := nextZ ob2 (by omega) x
          rw [hab] at h1 h2
          exact ⟨getZ oa2 (by omega) x, h1, nextZ oa2 (by omega) x, h2⟩
        by_cases h0 : m = 0
        · subst h0
          obtain ⟨g1, g2, g3, g4⟩ := main ask
          generalize gt za.ks ask = gg at g1 g2
          generalize has za.ks ask = hh at g1 g2
          cases hnx : nx za.ks ask with
          | none =>
            rw [hnx] at g3 g4
            cases hh with
            | true =>
              refine VLoop.unroll hE (mixedOf _) ?_
              repeat' (conv => whnf); first
               | (refine bcase_of (fun hr => ?_) (fun hr => ?_) <;> (try simp only [decide_eq_true_eq, decide_eq_false_iff_not, beq_iff_eq, beq_eq_false_iff_ne, ne_eq, bne_iff_ne, Bool.not_eq_true, ge_iff_le, gt_iff_lt] at hr) <;> try (exfalso; first | omega | exact hr rfl | (simp at hr; done) | (simp at hr; omega)))
               | (apply And.intro; · first | exact Nat.le_of_ble_eq_true rfl | (show indep _ _ = true; kernel_rfl) | decide | exact ⟨by decide, by decide⟩ | exact ⟨Nat.le_of_ble_eq_true rfl, allOne_of rfl⟩ | exact allOne_of rfl | exact ⟨by omega, by omega⟩ | exact ⟨rfl, rfl⟩ | exact ⟨by omega, by rw [lU]; omega⟩)
               | (apply Exists.intro; apply And.intro; · first | exact rfl)
               | (apply Exists.intro; apply Exists.intro; apply Exists.intro; apply And.intro; · first | (refine ATriple.callN (g1) ?_ ?_ ?_ <;> rfl) | (refine ATriple.callN (g2) ?_ ?_ ?_ <;> rfl) | (refine ATriple.callN (g3) ?_ ?_ ?_ <;> rfl) | (refine ATriple.callN (g4) ?_ ?_ ?_ <;> rfl))
               | fail
              all_goals (conv => whnf)
              refine VLoop.norm [0, 2, 8, 9, 12] [34, 35] ?_
              repeat' (conv => whnf); first
               | (apply And.intro; · first | exact Nat.le_of_ble_eq_true rfl | (show indep _ _ = true; kernel_rfl) | decide | exact pU)
               | (apply Exists.intro; apply And.intro; · first | exact rfl)
               | fail
              skip
              exact ih 1 (by omega) (by omega)
            | false =>
              refine VLoop.unroll hE (mixedOf _) ?_
              repeat' (conv => whnf); first
               | (refine bcase_of (fun hr => ?_) (fun hr => ?_) <;> (try simp only [decide_eq_true_eq, decide_eq_false_iff_not, beq_iff_eq, beq_eq_false_iff_ne, ne_eq, bne_iff_ne, Bool.not_eq_true, ge_iff_le, gt_iff_lt] at hr) <;> try (exfalso; first | omega | exact hr rfl | (simp at hr; done) | (simp at hr; omega)))
               | (apply And.intro; · first | exact Nat.le_of_ble_eq_true rfl | (show indep _ _ = true; kernel_rfl) | decide | exact ⟨by decide, by decide⟩ | exact ⟨Nat.le_of_ble_eq_true rfl, allOne_of rfl⟩ | exact allOne_of rfl | exact ⟨by omega, by omega⟩ | exact ⟨rfl, rfl⟩ | exact ⟨by omega, by rw [lU]; omega⟩)
               | (apply Exists.intro; apply And.intro; · first | exact rfl)
               | (apply Exists.intro; apply Exists.intro; apply Exists.intro; apply And.intro; · first | (refine ATriple.callN (g1) ?_ ?_ ?_ <;> rfl) | (refine ATriple.callN (g2) ?_ ?_ ?_ <;> rfl) | (refine ATriple.callN (g3) ?_ ?_ ?_ <;> rfl) | (refine ATriple.callN (g4) ?_ ?_ ?_ <;> rfl))
               | fail
              all_goals (conv => whnf)
              refine VLoop.norm [0, 2, 8, 9, 12] [34, 35] ?_
              repeat' (conv => whnf); first
               | (apply And.intro; · first | exact Nat.le_of_ble_eq_true rfl | (show indep _ _ = true; kernel_rfl) | decide | exact pU)
               | (apply Exists.intro; apply And.intro; · first | exact rfl)
               | fail
              skip
              exact ih 1 (by omega) (by omega)
          | some e =>
            rw [hnx] at g3 g4
            cases hh with
            | true =>
              refine VLoop.unroll hE (mixedOf _) ?_
              repeat' (conv => whnf); first
               | (refine bcase_of (fun hr => ?_) (fun hr => ?_) <;> (try simp only [decide_eq_true_eq, decide_eq_false_iff_not, beq_iff_eq, beq_eq_false_iff_ne, ne_eq, bne_iff_ne, Bool.not_eq_true, ge_iff_le, gt_iff_lt] at hr) <;> try (exfalso; first | omega | exact hr rfl | (simp at hr; done) | (simp at hr; omega)))
               | (apply And.intro; · first | exact Nat.le_of_ble_eq_true rfl | (show indep _ _ = true; kernel_rfl) | decide | exact ⟨by decide, by decide⟩ | exact ⟨Nat.le_of_ble_eq_true rfl, allOne_of rfl⟩ | exact allOne_of rfl | exact ⟨by omega, by omega⟩ | exact ⟨rfl, rfl⟩ | exact ⟨by omega, by rw [lU]; omega⟩)
               | (apply Exists.intro; apply And.intro; · first | exact rfl)
               | (apply Exists.intro; apply Exists.intro; apply Exists.intro; apply And.intro; · first | (refine ATriple.callN (g1) ?_ ?_ ?_ <;> rfl) | (refine ATriple.callN (g2) ?_ ?_ ?_ <;> rfl) | (refine ATriple.callN (g3) ?_ ?_ ?_ <;> rfl) | (refine ATriple.callN (g4) ?_ ?_ ?_ <;> rfl))
               | fail
              all_goals (conv => whnf)
              refine VLoop.norm [0, 2, 8, 9, 12] [34, 35] ?_
              repeat' (conv => whnf); first
               | (apply And.intro; · first | exact Nat.le_of_ble_eq_true rfl | (show indep _ _ = true; kernel_rfl) | decide | exact pU)
               | (apply Exists.intro; apply And.intro; · first | exact rfl)
               | fail
              skip
              exact ih 1 (by omega) (by omega)
            | false =>
              refine VLoop.unroll hE (mixedOf _) ?_
              repeat' (conv => whnf); first
               | (refine bcase_of (fun hr => ?_) (fun hr => ?_) <;> (try simp only [decide_eq_true_eq, decide_eq_false_iff_not, beq_iff_eq, beq_eq_false_iff_ne, ne_eq, bne_iff_ne, Bool.not_eq_true, ge_iff_le, gt_iff_lt] at hr) <;> try (exfalso; first | omega | exact hr rfl | (simp at hr; done) | (simp at hr; omega)))
               | (apply And.intro; · first | exact Nat.le_of_ble_eq_true rfl | (show indep _ _ = true; kernel_rfl) | decide | exact ⟨by decide, by decide⟩ | exact ⟨Nat.le_of_ble_eq_true rfl, allOne_of rfl⟩ | exact allOne_of rfl | exact ⟨by omega, by omega⟩ | exact ⟨rfl, rfl⟩ | exact ⟨by omega, by rw [lU]; omega⟩)
               | (apply Exists.intro; apply And.intro; · first | exact rfl)
               | (apply Exists.intro; apply Exists.intro; apply Exists.intro; apply And.intro; · first | (refine ATriple.callN (g1) ?_ ?_ ?_ <;> rfl) | (refine ATriple.callN (g2) ?_ ?_ ?_ <;> rfl) | (refine ATriple.callN (g3) ?_ ?_ ?_ <;> rfl) | (refine ATriple.callN (g4) ?_ ?_ ?_ <;> rfl))
               | fail
              all_goals (conv => whnf)
              refine VLoop.norm [0, 2, 8, 9, 12] [34, 35] ?_
              repeat' (conv => whnf); first
               | (apply And.intro; · first | exact Nat.le_of_ble_eq_true rfl | (show indep _ _ = true; kernel_rfl) | decide | exact pU)
               | (apply Exists.intro; apply And.intro; · first | exact rfl)
               | fail
              skip
              exact ih 1 (by omega) (by omega)
        · obtain ⟨x, hx⟩ : ∃ a, l[m - 1]? = some a := ⟨_, List.getElem?_eq_getElem (by omega)⟩
          have gx : lget (encU l) ((m : Int) - 1).toNat = some [u32V x] := by
            have := getU hx
            rwa [show ((m - 1 : Nat) : Int) = (m : Int) - 1 by omega] at this
          obtain ⟨g1, g2, g3, g4⟩ := main x
          generalize gt za.ks x = gg at g1 g2
          generalize has za.ks x = hh at g1 g2
          cases hnx : nx za.ks x with
          | none =>
            rw [hnx] at g3 g4
            cases hh with
            | true =>
              refine VLoop.unroll hE (mixedOf _) ?_
              repeat' (conv => whnf); first
               | (refine bcase_of (fun hr => ?_) (fun hr => ?_) <;> (try simp only [decide_eq_true_eq, decide_eq_false_iff_not, beq_iff_eq, beq_eq_false_iff_ne, ne_eq, bne_iff_ne, Bool.not_eq_true, ge_iff_le, gt_iff_lt] at hr) <;> try (exfalso; first | omega | exact hr rfl | (simp at hr; done) | (simp at hr; omega)))
               | (apply And.intro; · first | exact Nat.le_of_ble_eq_true rfl | (show indep _ _ = true; kernel_rfl) | decide | exact ⟨by decide, by decide⟩ | exact ⟨Nat.le_of_ble_eq_true rfl, allOne_of rfl⟩ | exact allOne_of rfl | exact ⟨by omega, by omega⟩ | exact ⟨rfl, rfl⟩ | exact ⟨by omega, by rw [lU]; omega⟩)
               | (apply Exists.intro; apply And.intro; · first | exact rfl | exact gx)
               | (apply Exists.intro; apply Exists.intro; apply Exists.intro; apply And.intro; · first | (refine ATriple.callN (g1) ?_ ?_ ?_ <;> rfl) | (refine ATriple.callN (g2) ?_ ?_ ?_ <;> rfl) | (refine ATriple.callN (g3) ?_ ?_ ?_ <;> rfl) | (refine ATriple.callN (g4) ?_ ?_ ?_ <;> rfl))
               | fail
              all_goals (conv => whnf)
              refine VLoop.norm [0, 2, 8, 9, 12] [34, 35] ?_
              repeat' (conv => whnf); first
               | (apply And.intro; · first | exact Nat.le_of_ble_eq_true rfl | (show indep _ _ = true; kernel_rfl) | decide | exact pU)
               | (apply Exists.intro; apply And.intro; · first | exact rfl)
               | fail
              try rw [hw]
              exact ih (m + 1) (by omega) (by omega)
            | false =>
              refine VLoop.unroll hE (mixedOf _) ?_
              repeat' (conv => whnf); first
               | (refine bcase_of (fun hr => ?_) (fun hr => ?_) <;> (try simp only [decide_eq_true_eq, decide_eq_false_iff_not, beq_iff_eq, beq_eq_false_iff_ne, ne_eq, bne_iff_ne, Bool.not_eq_true, ge_iff_le, gt_iff_lt] at hr) <;> try (exfalso; first | omega | exact hr rfl | (simp at hr; done) | (simp at hr; omega)))
               | (apply And.intro; · first | exact Nat.le_of_ble_eq_true rfl | (show indep _ _ = true; kernel_rfl) | decide | exact ⟨by decide, by decide⟩ | exact ⟨Nat.le_of_ble_eq_true rfl, allOne_of rfl⟩ | exact allOne_of rfl | exact ⟨by omega, by omega⟩ | exact ⟨rfl, rfl⟩ | exact ⟨by omega, by rw [lU]; omega⟩)
               | (apply Exists.intro; apply And.intro; · first | exact rfl | exact gx)
               | (apply Exists.intro; apply Exists.intro; apply Exists.intro; apply And.intro; · first | (refine ATriple.callN (g1) ?_ ?_ ?_ <;> rfl) | (refine ATriple.callN (g2) ?_ ?_ ?_ <;> rfl) | (refine ATriple.callN (g3) ?_ ?_ ?_ <;> rfl) | (refine ATriple.callN (g4) ?_ ?_ ?_ <;> rfl))
               | fail
              all_goals (conv => whnf)
              refine VLoop.norm [0, 2, 8, 9, 12] [34, 35] ?_
              repeat' (conv => whnf); first
               | (apply And.intro; · first | exact Nat.le_of_ble_eq_true rfl | (show indep _ _ = true; kernel_rfl) | decide | exact pU)
               | (apply Exists.intro; apply And.intro; · first | exact rfl)
               | fail
              try rw [hw]
              exact ih (m + 1) (by omega) (by omega)
          | some e =>
            rw [hnx] at g3 g4
            cases hh with
            | true =>
              refine VLoop.unroll hE (mixedOf _) ?_
              repeat' (conv => whnf); first
               | (refine bcase_of (fun hr => ?_) (fun hr => ?_) <;> (try simp only [decide_eq_true_eq, decide_eq_false_iff_not, beq_iff_eq, beq_eq_false_iff_ne, ne_eq, bne_iff_ne, Bool.not_eq_true, ge_iff_le, gt_iff_lt] at hr) <;> try (exfalso; first | omega | exact hr rfl | (simp at hr; done) | (simp at hr; omega)))
               | (apply And.intro; · first | exact Nat.le_of_ble_eq_true rfl | (show indep _ _ = true; kernel_rfl) | decide | exact ⟨by decide, by decide⟩ | exact ⟨Nat.le_of_ble_eq_true rfl, allOne_of rfl⟩ | exact allOne_of rfl | exact ⟨by omega, by omega⟩ | exact ⟨rfl, rfl⟩ | exact ⟨by omega, by rw [lU]; omega⟩)
               | (apply Exists.intro; apply And.intro; · first | exact rfl | exact gx)
               | (apply Exists.intro; apply Exists.intro; apply Exists.intro; apply And.intro; · first | (refine ATriple.callN (g1) ?_ ?_ ?_ <;> rfl) | (refine ATriple.callN (g2) ?_ ?_ ?_ <;> rfl) | (refine ATriple.callN (g3) ?_ ?_ ?_ <;> rfl) | (refine ATriple.callN (g4) ?_ ?_ ?_ <;> rfl))
               | fail
              all_goals (conv => whnf)
              refine VLoop.norm [0, 2, 8, 9, 12] [34, 35] ?_
              repeat' (conv => whnf); first
               | (apply And.intro; · first | exact Nat.le_of_ble_eq_true rfl | (show indep _ _ = true; kernel_rfl) | decide | exact pU)
               | (apply Exists.intro; apply And.intro; · first | exact rfl)
               | fail
              try rw [hw]
              exact ih (m + 1) (by omega) (by omega)
            | false =>
              refine VLoop.unroll hE (mixedOf _) ?_
              repeat' (conv => whnf); first
               | (refine bcase_of (fun hr => ?_) (fun hr => ?_) <;> (try simp only [decide_eq_true_eq, decide_eq_false_iff_not, beq_iff_eq, beq_eq_false_iff_ne, ne_eq, bne_iff_ne, Bool.not_eq_true, ge_iff_le, gt_iff_lt] at hr) <;> try (exfalso; first | omega | exact hr rfl | (simp at hr; done) | (simp at hr; omega)))
               | (apply And.intro; · first | exact Nat.le_of_ble_eq_true rfl | (show indep _ _ = true; kernel_rfl) | decide | exact ⟨by decide, by decide⟩ | exact ⟨Nat.le_of_ble_eq_true rfl, allOne_of rfl⟩ | exact allOne_of rfl | exact ⟨by omega, by omega⟩ | exact ⟨rfl, rfl⟩ | exact ⟨by omega, by rw [lU]; omega⟩)
               | (apply Exists.intro; apply And.intro; · first | exact rfl | exact gx)
               | (apply Exists.intro; apply Exists.intro; apply Exists.intro; apply And.intro; · first | (refine ATriple.callN (g1) ?_ ?_ ?_ <;> rfl) | (refine ATriple.callN (g2) ?_ ?_ ?_ <;> rfl) | (refine ATriple.callN (g3) ?_ ?_ ?_ <;> rfl) | (refine ATriple.callN (g4) ?_ ?_ ?_ <;> rfl))
               | fail
              all_goals (conv => whnf)
              refine VLoop.norm [0, 2, 8, 9, 12] [34, 35] ?_
              repeat' (conv => whnf); first
               | (apply And.intro; · first | exact Nat.le_of_ble_eq_true rfl | (show indep _ _ = true; kernel_rfl) | decide | exact pU)
               | (apply Exists.intro; apply And.intro; · first | exact rfl)
               | fail
              try rw [hw]
              exact ih (m + 1) (by omega) (by omega)
      case neg =>
        refine VLoop.unroll hE (mixedOf _) ?_
        repeat' (conv => whnf); first
         | (refine bcase_of (fun hr => ?_) (fun hr => ?_) <;> (try simp only [decide_eq_true_eq, decide_eq_false_iff_not, beq_iff_eq, beq_eq_false_iff_ne, ne_eq, bne_iff_ne, Bool.not_eq_true, ge_iff_le, gt_iff_lt] at hr) <;> try (exfalso; first | omega | exact hr rfl | (simp at hr; done) | (simp at hr; omega)))
         | (apply And.intro; · first | exact Nat.le_of_ble_eq_true rfl | (show indep _ _ = true; kernel_rfl) | decide | exact ⟨by decide, by decide⟩ | exact ⟨Nat.le_of_ble_eq_true rfl, allOne_of rfl⟩ | exact allOne_of rfl | exact ⟨by omega, by omega⟩ | exact ⟨rfl, rfl⟩)
         | (apply Exists.intro; apply And.intro; · first | exact rfl | exact wakes_ok)
         | (apply Exists.intro; apply Exists.intro; apply Exists.intro; apply And.intro; · first | (refine ATriple.callN (cLa) ?_ ?_ ?_ <;> rfl) | (refine ATriple.callN (cLb) ?_ ?_ ?_ <;> rfl))
         | fail
        all_goals (conv => whnf)
        all_goals rfl
end Go.Proofs.Ytbppemcdphgknaa.T
/- Chapter 16: TreeDrains. -/
namespace Go.Proofs.Ytbppemcdphgknaa.T
open Go Go.Vm
set_option maxRecDepth 100000
set_option maxHeartbeats 40000000
set_option linter.unusedSimpArgs false
set_option linter.unusedVariables false
theorem mul7 {m a q : Nat} (h7 : m % 7 ≠ 0) (hq : q < m) : ∃ j, j < m ∧ (j * 7 + a) % m = q := by
  obtain ⟨t, u, hu⟩ : ∃ t u, 7 * u = 1 + m * t := by
    have h := Nat.mod_add_div m 7
    have hc : m % 7 = 1 ∨ m % 7 = 2 ∨ m % 7 = 3 ∨ m % 7 = 4 ∨ m % 7 = 5 ∨ m % 7 = 6 := by omega
    rcases hc with e | e | e | e | e | e
    · exact ⟨6, (1 + m * 6) / 7, by omega⟩
    · exact ⟨3, (1 + m * 3) / 7, by omega⟩
    · exact ⟨2, (1 + m * 2) / 7, by omega⟩
    · exact ⟨5, (1 + m * 5) / 7, by omega⟩
    · exact ⟨4, (1 + m * 4) / 7, by omega⟩
    · exact ⟨1, (1 + m * 1) / 7, by omega⟩
  have hma : a ≤ m * a := Nat.le_mul_of_pos_left a (by omega)
  obtain ⟨c, hc⟩ : ∃ c, c + a = q + m * a := ⟨q + m * a - a, by omega⟩
  refine ⟨(c * u) % m, Nat.mod_lt _ (by omega), ?_⟩
  have e1 : ((c * u) % m * 7 + a) % m = (c * u * 7 + a) % m := by
    rw [Nat.add_mod, Nat.mul_mod, Nat.mod_mod, ← Nat.mul_mod, ← Nat.add_mod]
  have e2 : c * u * 7 = c + m * (t * c) := by
    have : c * u * 7 = c * (7 * u) := by rw [Nat.mul_assoc, Nat.mul_comm u 7]
    rw [this, hu, Nat.mul_add, Nat.mul_one]
    congr 1
    rw [Nat.mul_left_comm, Nat.mul_comm c t]
  rw [e1, e2, show c + m * (t * c) + a = (q + m * a) + m * (t * c) by omega, Nat.add_mul_mod_self_left, Nat.add_mul_mod_self_left, Nat.mod_eq_of_lt hq]
theorem out_srt {l : PL} {k : Int} (h : Srt l) : Srt (out l k) := h.sublist List.filter_sublist
theorem has_out {l : PL} (hs : Srt l) {k x : Int} : has (out l k) x = true ↔ x ≠ k ∧ has l x = true := by
  rw [has_iff (out_srt hs), has_iff hs]
  constructor
  · rintro ⟨v, hv⟩
    obtain ⟨h1, h2⟩ := mem_out.1 hv
    exact ⟨h2, v, h1⟩
  · rintro ⟨h1, v, h2⟩
    exact ⟨v, mem_out.2 ⟨h2, h1⟩⟩
theorem empty_sh {i : Nat} {z : TZ} (h : ZOk i z) (he : z.ks = []) : z.sh = [[0]] := by
  obtain ⟨d1, _⟩ := h.ts.deep
  have hh : z.h = 0 := by
    rcases Nat.eq_zero_or_pos z.h with h0 | h0
    · exact h0
    · have := d1 h0
      have hp : 0 < 3 ^ z.h := Nat.pow_pos (by decide)
      rw [he] at this
      simp at this
      omega
  obtain ⟨S, hs, _⟩ := h.ts
  rw [hh] at hs
  obtain ⟨_, g, _⟩ := hs
  unfold TZ.sh
  rw [hh]
  simp [lev, sz_of g, he]
def keyAt (l : List Int) (a j : Nat) : Nat := if l.length % 7 = 0 then j else (j * 7 + a) % l.length
def stR1 (l : List Int) (a : Nat) (z : TZ) (i : Nat) : St DV := mkSt 137 [(0, uV l), (1, .int .u8 a), (5, .ref (22, 1) 0), (6, i64V z.ks.length), (7, i64V i)] [(21, .abs (trZ z))] []
def stR2 (l : List Int) (a : Nat) (z : TZ) (i : Nat) : St DV := mkSt 137 [(0, uV l), (1, .int .u8 a), (5, .ref (22, 1) 0), (6, i64V z.ks.length), (10, i64V i)] [(21, .abs (trZ z))] []
theorem drains16_ok (l : List Int) (at_ : Int) (hat : 0 ≤ at_ ∧ at_ ≤ 255) : PTriple Try.prog gv 10 [uV l, .int .u8 at_] (.bool true) := by
  have pU := pure_U l
  have lU := lenU l
  by_cases hlen : l.length ≤ 100
  case neg =>
    refine PTriple.of_body (C := cxW) Try.func10 rfl (by kernel_rfl) (mixedOf _) fun E hE => ?_
    repeat' (conv => whnf); first
     | (refine bcase_of (fun hr => ?_) (fun hr => ?_) <;> (try simp only [decide_eq_true_eq, decide_eq_false_iff_not, beq_iff_eq, beq_eq_false_iff_ne, ne_eq, bne_iff_ne, Bool.not_eq_true, ge_iff_le, gt_iff_lt] at hr) <;> try (exfalso; first | omega | exact hr rfl | (simp at hr; done) | (simp at hr; omega)))
     | (apply And.intro; · first | exact Nat.le_of_ble_eq_true rfl | (show indep _ _ = true; kernel_rfl) | decide | exact ⟨by decide, by decide⟩ | exact ⟨Nat.le_of_ble_eq_true rfl, allOne_of rfl⟩ | exact allOne_of rfl | exact ⟨by omega, by omega⟩ | exact ⟨rfl, rfl⟩)
     | (apply Exists.intro; apply And.intro; · first | exact rfl | exact wakes_ok)
     | fail
    all_goals (conv => whnf)
    all_goals rfl
  case pos =>
    have c0 := newZ
    obtain ⟨a, rfl⟩ := Int.eq_ofNat_of_zero_le hat.1
    refine PTriple.of_body (C := cxW) Try.func10 rfl (by kernel_rfl) (mixedOf _) fun E hE => ?_
    repeat' (conv => whnf); first
     | (refine bcase_of (fun hr => ?_) (fun hr => ?_) <;> (try simp only [decide_eq_true_eq, decide_eq_false_iff_not, beq_iff_eq, beq_eq_false_iff_ne, ne_eq, bne_iff_ne, Bool.not_eq_true, ge_iff_le, gt_iff_lt] at hr) <;> try (exfalso; first | omega | exact hr rfl | (simp at hr; done) | (simp at hr; omega)))
     | (apply And.intro; · first | exact Nat.le_of_ble_eq_true rfl | (show indep _ _ = true; kernel_rfl) | decide | exact ⟨by decide, by decide⟩ | exact ⟨Nat.le_of_ble_eq_true rfl, allOne_of rfl⟩ | exact allOne_of rfl | exact ⟨by omega, by omega⟩ | exact ⟨rfl, rfl⟩)
     | (apply Exists.intro; apply And.intro; · first | exact rfl)
     | (apply Exists.intro; apply Exists.intro; apply Exists.intro; apply And.intro; · first | (refine ATriple.callN (c0) ?_ ?_ ?_ <;> rfl))
     | fail
    all_goals (conv => whnf)
    refine VLoop.norm [0, 1, 5, 6, 7] [21] ?_
    repeat' (conv => whnf); first
     | (apply And.intro; · first | exact Nat.le_of_ble_eq_true rfl | (show indep _ _ = true; kernel_rfl) | decide | exact pU)
     | (apply Exists.intro; apply And.intro; · first | exact rfl)
     | fail
    refine VLoop.inv (fun z : TZ × Nat => stR1 l a z.1 z.2) (fun z => z.2 ≤ l.length ∧ ZOk z.2 z.1 ∧ ∀ e ∈ z.1.ks, e.1 ∈ l) (fun z => l.length - z.2) ⟨TZ.new, 0⟩ ⟨Nat.zero_le _, ZOk.new, fun e he => by cases he⟩ rfl ?_
    rintro ⟨z, i⟩ ⟨hi, hz, hin⟩ ih
    simp only at hi hz hin ih
    show VLoop cxW E _ (stR1 l a z i) _
    have hzk := hz.lk
    by_cases hgo : i < l.length
    case pos =>
      have hw : IntKind.i64.wrap ((i : Int) + 1) = ((i + 1 : Nat) : Int) := wrap64 (by omega) (by omega)
      have hwk : IntKind.i64.wrap ((z.ks.length : Int) + 1) = ((z.ks.length + 1 : Nat) : Int) := wrap64 (by omega) (by omega)
      obtain ⟨x, hx⟩ : ∃ a, l[i]? = some a := ⟨_, List.getElem?_eq_getElem hgo⟩
      have gx := getU hx
      have cG := getZ hz (by omega) x
      obtain ⟨z2, cP, o2, e2⟩ := putZ hz (by omega) x 1
      have hin2 : ∀ e ∈ z2.ks, e.1 ∈ l := fun e he => by
        rw [e2] at he
        rcases mem_lay he with rfl | he
        · exact List.mem_of_getElem? hx
        · exact hin e he
      have hlen2 := lay_len z.ks x 1
      rw [← e2] at hlen2
      have hi2 := ih ⟨z2, i + 1⟩ ⟨hgo, o2, hin2⟩ (by show l.length - (i + 1) < l.length - i; omega)
      unfold stR1 at hi2
      dsimp only at hi2
      cases hh : has z.ks x with
      | true =>
        rw [hh] at cG hlen2
        have e3 : z2.ks.length = z.ks.length := by simpa using hlen2
        rw [e3] at hi2
        refine VLoop.unroll hE (mixedOf _) ?_
        repeat' (conv => whnf); first
         | (refine bcase_of (fun hr => ?_) (fun hr => ?_) <;> (try simp only [decide_eq_true_eq, decide_eq_false_iff_not, beq_iff_eq, beq_eq_false_iff_ne, ne_eq, bne_iff_ne, Bool.not_eq_true, ge_iff_le, gt_iff_lt] at hr) <;> try (exfalso; first | omega | exact hr rfl | (simp at hr; done) | (simp at hr; omega)))
         | (apply And.intro; · first | exact Nat.le_of_ble_eq_true rfl | (show indep _ _ = true; kernel_rfl) | decide | exact ⟨by decide, by decide⟩ | exact ⟨Nat.le_of_ble_eq_true rfl, allOne_of rfl⟩ | exact allOne_of rfl | exact ⟨by omega, by omega⟩ | exact ⟨rfl, rfl⟩ | exact ⟨by omega, by rw [lU]; omega⟩)
         | (apply Exists.intro; apply And.intro; · first | exact rfl | exact gx)
         | (apply Exists.intro; apply Exists.intro; apply Exists.intro; apply And.intro; · first | (refine ATriple.callN (cG) ?_ ?_ ?_ <;> rfl) | (refine ATriple.callN (cP) ?_ ?_ ?_ <;> rfl))
         | fail
        all_goals (conv => whnf)
        refine VLoop.norm [0, 1, 5, 6, 7] [21] ?_
        repeat' (conv => whnf); first
         | (apply And.intro; · first | exact Nat.le_of_ble_eq_true rfl | (show indep _ _ = true; kernel_rfl) | decide | exact pU)
         | (apply Exists.intro; apply And.intro; · first | exact rfl)
         | fail
        try rw [hw]
        exact hi2
      | false =>
        rw [hh] at cG hlen2
        have e3 : z2.ks.length = z.ks.length + 1 := by simpa using hlen2
        rw [e3] at hi2
        refine VLoop.unroll hE (mixedOf _) ?_
        repeat' (conv => whnf); first
         | (refine bcase_of (fun hr => ?_) (fun hr => ?_) <;> (try simp only [decide_eq_true_eq, decide_eq_false_iff_not, beq_iff_eq, beq_eq_false_iff_ne, ne_eq, bne_iff_ne, Bool.not_eq_true, ge_iff_le, gt_iff_lt] at hr) <;> try (exfalso; first | omega | exact hr rfl | (simp at hr; done) | (simp at hr; omega)))
         | (apply And.intro; · first | exact Nat.le_of_ble_eq_true rfl | (show indep _ _ = true; kernel_rfl) | decide | exact ⟨by decide, by decide⟩ | exact ⟨Nat.le_of_ble_eq_true rfl, allOne_of rfl⟩ | exact allOne_of rfl | exact ⟨by omega, by omega⟩ | exact ⟨rfl, rfl⟩ | exact ⟨by omega, by rw [lU]; omega⟩)
         | (apply Exists.intro; apply And.intro; · first | exact rfl | exact gx)
         | rw [hwk]
         | (apply Exists.intro; apply Exists.intro; apply Exists.intro; apply And.intro; · first | (refine ATriple.callN (cG) ?_ ?_ ?_ <;> rfl) | (refine ATriple.callN (cP) ?_ ?_ ?_ <;> rfl))
         | fail
        all_goals (conv => whnf)
        refine VLoop.norm [0, 1, 5, 6, 7] [21] ?_
        repeat' (conv => whnf); first
         | (apply And.intro; · first | exact Nat.le_of_ble_eq_true rfl | (show indep _ _ = true; kernel_rfl) | decide | exact pU)
         | (apply Exists.intro; apply And.intro; · first | exact rfl)
         | fail
        try rw [hw]
        exact hi2
    case neg =>
      have cL := lenZ z
      have hz0 := hz.le (show i ≤ 100 by omega)
      clear ih
      refine VLoop.unroll hE (mixedOf _) ?_
      repeat' (conv => whnf); first
       | (refine bcase_of (fun hr => ?_) (fun hr => ?_) <;> (try simp only [decide_eq_true_eq, decide_eq_false_iff_not, beq_iff_eq, beq_eq_false_iff_ne, ne_eq, bne_iff_ne, Bool.not_eq_true, ge_iff_le, gt_iff_lt] at hr) <;> try (exfalso; first | omega | exact hr rfl | (simp at hr; done) | (simp at hr; omega)))
       | (apply And.intro; · first | exact Nat.le_of_ble_eq_true rfl | (show indep _ _ = true; kernel_rfl) | decide | exact ⟨by decide, by decide⟩ | exact ⟨Nat.le_of_ble_eq_true rfl, allOne_of rfl⟩ | exact allOne_of rfl | exact ⟨by omega, by omega⟩ | exact ⟨rfl, rfl⟩)
       | (apply Exists.intro; apply And.intro; · first | exact rfl)
       | (apply Exists.intro; apply Exists.intro; apply Exists.intro; apply And.intro; · first | (refine ATriple.callN (cL) ?_ ?_ ?_ <;> rfl))
       | fail
      all_goals (conv => whnf)
      refine VLoop.norm [0, 1, 5, 6, 10] [21] ?_
      repeat' (conv => whnf); first
       | (apply And.intro; · first | exact Nat.le_of_ble_eq_true rfl | (show indep _ _ = true; kernel_rfl) | decide | exact pU)
       | (apply Exists.intro; apply And.intro; · first | exact rfl)
       | fail
      clear hz hzk cL
      refine VLoop.inv (fun z : TZ × Nat => stR2 l a z.1 z.2) (fun z => z.2 ≤ l.length ∧ ZOk (100 + z.2) z.1 ∧ (∀ e ∈ z.1.ks, e.1 ∈ l) ∧ ∀ j x, j < z.2 → l[keyAt l a j]? = some x → has z.1.ks x = false) (fun z => l.length - z.2) ⟨z, 0⟩ ⟨Nat.zero_le _, hz0, hin, fun j x h => absurd h (Nat.not_lt_zero _)⟩ rfl ?_
      clear hin hz0
      rintro ⟨z, j⟩ ⟨hj, hz, hin, hgone⟩ ih
      simp only at hj hz hin hgone ih
      show VLoop cxW E _ (stR2 l a z j) _
      have hzk := hz.lk
      have hsrt := hz.ts.srt
      by_cases hgj : j < l.length
      case pos =>
        have hw : IntKind.i64.wrap ((j : Int) + 1) = ((j + 1 : Nat) : Int) := wrap64 (by omega) (by omega)
        have h7 : IntKind.i64.wrap ((j : Int) * 7) = ((j * 7 : Nat) : Int) := by rw [wrap64 (by omega) (by omega)]; omega
        have hwa : IntKind.i64.wrap (a : Int) = (a : Int) := wrap64 (by omega) (by omega)
        have h7a : IntKind.i64.wrap (((j * 7 : Nat) : Int) + (a : Int)) = ((j * 7 + a : Nat) : Int) := wrap64 (by omega) (by omega)
        have hq := Nat.mod_lt (j * 7 + a) (show l.length > 0 by omega)
        have hmod : Int.tmod ((j * 7 + a : Nat) : Int) ((encU l).length : Int) = (((j * 7 + a) % l.length : Nat) : Int) := by rw [lU]; rfl
        have hm7 : Int.tmod ((encU l).length : Int) 7 = ((l.length % 7 : Nat) : Int) := by rw [lU]; rfl
        obtain ⟨y, hy⟩ : ∃ v, l[(j * 7 + a) % l.length]? = some v := ⟨_, List.getElem?_eq_getElem hq⟩
        obtain ⟨u, hu⟩ : ∃ v, l[j]? = some v := ⟨_, List.getElem?_eq_getElem hgj⟩
        have gy := getU hy
        have gu := getU hu
        obtain ⟨x, hx, hxc⟩ : ∃ x, l[keyAt l a j]? = some x ∧ x = (if l.length % 7 = 0 then u else y) := by
          unfold keyAt
          by_cases h : l.length % 7 = 0
          · exact ⟨u, by rw [if_pos h]; exact hu, by rw [if_pos h]⟩
          · exact ⟨y, by rw [if_neg h]; exact hy, by rw [if_neg h]⟩
        obtain ⟨q, hqe⟩ : ∃ q, q = (j * 7 + a) % l.length := ⟨_, rfl⟩
        rw [← hqe] at hq hmod hy gy
        have cG := getZ hz (by omega) x
        obtain ⟨z2, cD, o2, e2⟩ := dropZ hz (by omega) x
        have cG2 := getZ o2 (by omega) x
        have cL2 := lenZ z2
        have cS2 := shapeZ o2 (by omega)
        have cQ2 := shapedZ o2 (by omega)
        have pS := pure_S z2.sh
        have hno : has z2.ks x = false := by
          cases hh : has z2.ks x with
          | false => rfl
          | true => rw [e2, has_out hsrt] at hh; exact absurd rfl hh.1
        rw [hno] at cG2
        have hin2 : ∀ e ∈ z2.ks, e.1 ∈ l := fun e he => by
          rw [e2] at he
          exact hin e (mem_out.1 he).1
        have hgone2 : ∀ i w, i < j + 1 → l[keyAt l a i]? = some w → has z2.ks w = false := fun i w h1 h2 => by
          cases hh : has z2.ks w with
          | false => rfl
          | true =>
            rw [e2, has_out hsrt] at hh
            by_cases h : i = j
            · subst h; rw [hx] at h2; exact absurd (Option.some.inj h2).symm hh.1
            · rw [hgone i w (by omega) h2] at hh; exact absurd hh.2 (by simp)
        have hi2 := ih ⟨z2, j + 1⟩ ⟨hgj, o2, hin2, hgone2⟩ (by show l.length - (j + 1) < l.length - j; omega)
        unfold stR2 at hi2
        dsimp only at hi2
        generalize gt z.ks x = g1 at cG
        generalize gt z2.ks x = g2 at cG2
        generalize z2.sh = sh at cS2 cQ2 pS
        have hlen2 : z2.ks.length = z.ks.length - (if has z.ks x then 1 else 0) := by
          rw [e2]
          cases hh : has z.ks x with
          | true => have := out_len hsrt hh; simp; omega
          | false => rw [out_not hsrt hh]; simp
        clear e2
        have hpos : has z.ks x = true → 0 < z.ks.length := fun h => by
          cases hk : z.ks with
          | nil => rw [hk] at h; cases h
          | cons a b => simp
        cases hh : has z.ks x with
        | true =>
          rw [hh] at cG cD hlen2
          have hp := hpos hh
          have e3 : z2.ks.length = z.ks.length - 1 := by simpa using hlen2
          have hwk : IntKind.i64.wrap ((z.ks.length : Int) - 1) = ((z.ks.length - 1 : Nat) : Int) := by rw [wrap64 (by omega) (by omega)]; omega
          rw [e3] at hi2 cL2 cQ2
          by_cases hb : l.length % 7 = 0
          · rw [if_pos hb] at hxc
            subst hxc
            refine VLoop.unroll hE (mixedOf _) ?_
            repeat' (conv => whnf); first
             | (refine bcase_of (fun hr => ?_) (fun hr => ?_) <;> (try simp only [decide_eq_true_eq, decide_eq_false_iff_not, beq_iff_eq, beq_eq_false_iff_ne, ne_eq, bne_iff_ne, Bool.not_eq_true, ge_iff_le, gt_iff_lt] at hr) <;> try (exfalso; first | omega | exact hr rfl | (simp at hr; done) | (simp at hr; omega)))
             | (apply And.intro; · first | exact Nat.le_of_ble_eq_true rfl | (show indep _ _ = true; kernel_rfl) | decide | exact ⟨by decide, by decide⟩ | exact ⟨Nat.le_of_ble_eq_true rfl, allOne_of rfl⟩ | exact allOne_of rfl | exact ⟨by omega, by omega⟩ | exact ⟨rfl, rfl⟩ | exact pS | exact ⟨by omega, by rw [lU]; omega⟩ | exact (by rw [lU]; omega))
             | (apply Exists.intro; apply And.intro; · first | exact rfl | exact cQ2 | exact gy | exact gu)
             | rw [h7]
             | rw [hwa]
             | rw [h7a]
             | rw [hmod]
             | rw [hm7]
             | rw [hwk]
             | (apply Exists.intro; apply Exists.intro; apply Exists.intro; apply And.intro; · first | (refine ATriple.callN (cG) ?_ ?_ ?_ <;> rfl) | (refine ATriple.callN (cD) ?_ ?_ ?_ <;> rfl) | (refine ATriple.callN (cG2) ?_ ?_ ?_ <;> rfl) | (refine ATriple.callN (cL2) ?_ ?_ ?_ <;> rfl) | (refine ATriple.callN (cS2) ?_ ?_ ?_ <;> rfl))
             | fail
            all_goals (conv => whnf)
            refine VLoop.norm [0, 1, 5, 6, 10] [21] ?_
            repeat' (conv => whnf); first
             | (apply And.intro; · first | exact Nat.le_of_ble_eq_true rfl | (show indep _ _ = true; kernel_rfl) | decide | exact pU)
             | (apply Exists.intro; apply And.intro; · first | exact rfl)
             | fail
            try rw [hw]
            exact hi2
          · rw [if_neg hb] at hxc
            subst hxc
            refine VLoop.unroll hE (mixedOf _) ?_
            repeat' (conv => whnf); first
             | (refine bcase_of (fun hr => ?_) (fun hr => ?_) <;> (try simp only [decide_eq_true_eq, decide_eq_false_iff_not, beq_iff_eq, beq_eq_false_iff_ne, ne_eq, bne_iff_ne, Bool.not_eq_true, ge_iff_le, gt_iff_lt] at hr) <;> try (exfalso; first | omega | exact hr rfl | (simp at hr; done) | (simp at hr; omega)))
             | (apply And.intro; · first | exact Nat.le_of_ble_eq_true rfl | (show indep _ _ = true; kernel_rfl) | decide | exact ⟨by decide, by decide⟩ | exact ⟨Nat.le_of_ble_eq_true rfl, allOne_of rfl⟩ | exact allOne_of rfl | exact ⟨by omega, by omega⟩ | exact ⟨rfl, rfl⟩ | exact pS | exact ⟨by omega, by rw [lU]; omega⟩ | exact (by rw [lU]; omega))
             | (apply Exists.intro; apply And.intro; · first | exact rfl | exact cQ2 | exact gy | exact gu)
             | rw [h7]
             | rw [hwa]
             | rw [h7a]
             | rw [hmod]
             | rw [hm7]
             | rw [hwk]
             | (apply Exists.intro; apply Exists.intro; apply Exists.intro; apply And.intro; · first | (refine ATriple.callN (cG) ?_ ?_ ?_ <;> rfl) | (refine ATriple.callN (cD) ?_ ?_ ?_ <;> rfl) | (refine ATriple.callN (cG2) ?_ ?_ ?_ <;> rfl) | (refine ATriple.callN (cL2) ?_ ?_ ?_ <;> rfl) | (refine ATriple.callN (cS2) ?_ ?_ ?_ <;> rfl))
             | fail
            all_goals (conv => whnf)
            refine VLoop.norm [0, 1, 5, 6, 10] [21] ?_
            repeat' (conv => whnf); first
             | (apply And.intro; · first | exact Nat.le_of_ble_eq_true rfl | (show indep _ _ = true; kernel_rfl) | decide | exact pU)
             | (apply Exists.intro; apply And.intro; · first | exact rfl)
             | fail
            try rw [hw]
            exact hi2
        | false =>
          rw [hh] at cG cD hlen2
          have e3 : z2.ks.length = z.ks.length := by simpa using hlen2
          have hwk : True := trivial
          rw [e3] at hi2 cL2 cQ2
          by_cases hb : l.length % 7 = 0
          · rw [if_pos hb] at hxc
            subst hxc
            refine VLoop.unroll hE (mixedOf _) ?_
            repeat' (conv => whnf); first
             | (refine bcase_of (fun hr => ?_) (fun hr => ?_) <;> (try simp only [decide_eq_true_eq, decide_eq_false_iff_not, beq_iff_eq, beq_eq_false_iff_ne, ne_eq, bne_iff_ne, Bool.not_eq_true, ge_iff_le, gt_iff_lt] at hr) <;> try (exfalso; first | omega | exact hr rfl | (simp at hr; done) | (simp at hr; omega)))
             | (apply And.intro; · first | exact Nat.le_of_ble_eq_true rfl | (show indep _ _ = true; kernel_rfl) | decide | exact ⟨by decide, by decide⟩ | exact ⟨Nat.le_of_ble_eq_true rfl, allOne_of rfl⟩ | exact allOne_of rfl | exact ⟨by omega, by omega⟩ | exact ⟨rfl, rfl⟩ | exact pS | exact ⟨by omega, by rw [lU]; omega⟩ | exact (by rw [lU]; omega))
             | (apply Exists.intro; apply And.intro; · first | exact rfl | exact cQ2 | exact gy | exact gu)
             | rw [h7]
             | rw [hwa]
             | rw [h7a]
             | rw [hmod]
             | rw [hm7]
             | rw [hwk]
             | (apply Exists.intro; apply Exists.intro; apply Exists.intro; apply And.intro; · first | (refine ATriple.callN (cG) ?_ ?_ ?_ <;> rfl) | (refine ATriple.callN (cD) ?_ ?_ ?_ <;> rfl) | (refine ATriple.callN (cG2) ?_ ?_ ?_ <;> rfl) | (refine ATriple.callN (cL2) ?_ ?_ ?_ <;> rfl) | (refine ATriple.callN (cS2) ?_ ?_ ?_ <;> rfl))
             | fail
            all_goals (conv => whnf)
            refine VLoop.norm [0, 1, 5, 6, 10] [21] ?_
            repeat' (conv => whnf); first
             | (apply And.intro; · first | exact Nat.le_of_ble_eq_true rfl | (show indep _ _ = true; kernel_rfl) | decide | exact pU)
             | (apply Exists.intro; apply And.intro; · first | exact rfl)
             | fail
            try rw [hw]
            exact hi2
          · rw [if_neg hb] at hxc
            subst hxc
            refine VLoop.unroll hE (mixedOf _) ?_
            repeat' (conv => whnf); first
             | (refine bcase_of (fun hr => ?_) (fun hr => ?_) <;> (try simp only [decide_eq_true_eq, decide_eq_false_iff_not, beq_iff_eq, beq_eq_false_iff_ne, ne_eq, bne_iff_ne, Bool.not_eq_true, ge_iff_le, gt_iff_lt] at hr) <;> try (exfalso; first | omega | exact hr rfl | (simp at hr; done) | (simp at hr; omega)))
             | (apply And.intro; · first | exact Nat.le_of_ble_eq_true rfl | (show indep _ _ = true; kernel_rfl) | decide | exact ⟨by decide, by decide⟩ | exact ⟨Nat.le_of_ble_eq_true rfl, allOne_of rfl⟩ | exact allOne_of rfl | exact ⟨by omega, by omega⟩ | exact ⟨rfl, rfl⟩ | exact pS | exact ⟨by omega, by rw [lU]; omega⟩ | exact (by rw [lU]; omega))
             | (apply Exists.intro; apply And.intro; · first | exact rfl | exact cQ2 | exact gy | exact gu)
             | rw [h7]
             | rw [hwa]
             | rw [h7a]
             | rw [hmod]
             | rw [hm7]
             | rw [hwk]
             | (apply Exists.intro; apply Exists.intro; apply Exists.intro; apply And.intro; · first | (refine ATriple.callN (cG) ?_ ?_ ?_ <;> rfl) | (refine ATriple.callN (cD) ?_ ?_ ?_ <;> rfl) | (refine ATriple.callN (cG2) ?_ ?_ ?_ <;> rfl) | (refine ATriple.callN (cL2) ?_ ?_ ?_ <;> rfl) | (refine ATriple.callN (cS2) ?_ ?_ ?_ <;> rfl))
             | fail
            all_goals (conv => whnf)
            refine VLoop.norm [0, 1, 5, 6, 10] [21] ?_
            repeat' (conv => whnf); first
             | (apply And.intro; · first | exact Nat.le_of_ble_eq_true rfl | (show indep _ _ = true; kernel_rfl) | decide | exact pU)
             | (apply Exists.intro; apply And.intro; · first | exact rfl)
             | fail
            try rw [hw]
            exact hi2
      case neg =>
        have he : z.ks = [] := by
          cases hk : z.ks with
          | nil => rfl
          | cons e r =>
            exfalso
            have hem := hin e (by rw [hk]; simp)
            obtain ⟨p, hp, hpx⟩ := List.getElem_of_mem hem
            obtain ⟨i2, hi2, hik⟩ : ∃ i2, i2 < l.length ∧ keyAt l a i2 = p := by
              unfold keyAt
              by_cases h : l.length % 7 = 0
              · exact ⟨p, hp, by rw [if_pos h]⟩
              · obtain ⟨i2, h1, h2⟩ := mul7 (a := a) h hp
                exact ⟨i2, h1, by rw [if_neg h]; exact h2⟩
            have := hgone i2 e.1 (by omega) (by rw [hik, List.getElem?_eq_getElem hp, hpx])
            rw [has_mem hsrt (by rw [hk]; simp)] at this
            cases this
        have cS := shapeZ hz (by omega)
        rw [empty_sh hz he] at cS
        have hk0 : z.ks.length = 0 := by rw [he]; rfl
        clear ih
        refine VLoop.unroll hE (mixedOf _) ?_
        repeat' (conv => whnf); first
         | (refine bcase_of (fun hr => ?_) (fun hr => ?_) <;> (try simp only [decide_eq_true_eq, decide_eq_false_iff_not, beq_iff_eq, beq_eq_false_iff_ne, ne_eq, bne_iff_ne, Bool.not_eq_true, ge_iff_le, gt_iff_lt] at hr) <;> try (exfalso; first | omega | exact hr rfl | (simp at hr; done) | (simp at hr; omega)))
         | (apply And.intro; · first | exact Nat.le_of_ble_eq_true rfl | (show indep _ _ = true; kernel_rfl) | decide | exact ⟨by decide, by decide⟩ | exact ⟨Nat.le_of_ble_eq_true rfl, allOne_of rfl⟩ | exact allOne_of rfl | exact ⟨by omega, by omega⟩ | exact ⟨rfl, rfl⟩)
         | (apply Exists.intro; apply And.intro; · first | exact rfl | exact wakes_ok)
         | (apply Exists.intro; apply Exists.intro; apply Exists.intro; apply And.intro; · first | (refine ATriple.callN (cS) ?_ ?_ ?_ <;> rfl))
         | fail
        all_goals (conv => whnf)
        all_goals rfl
end Go.Proofs.Ytbppemcdphgknaa.T
