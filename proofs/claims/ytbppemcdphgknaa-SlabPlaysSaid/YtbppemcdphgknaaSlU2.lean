/- Chapter 14: SlabPlays: acts by their kind. -/
import Derived.Test.YtbppemcdphgknaaSlUa
set_option linter.unusedVariables false
set_option linter.unusedSimpArgs false
namespace Go.Proofs.Ytbppemcdphgknaa
open Go Go.Vm
set_option maxRecDepth 100000
set_option maxHeartbeats 40000000
set_option linter.unusedSimpArgs false
set_option linter.unusedVariables false
theorem plays_2m {E : Env} (hE : EOk cxP E) {K : Exit → St DV → Prop} (room : Int) (l : List Ac) (cap : Int) (N i : Nat) (taken low : Int) (L : List Pl) (T : List Bool) (X : List (Option (List En))) (made : Int) (hTN : T.length = N) (h : J cap taken low L T X made i) (ih : ∀ j : ZP, j.i ≤ l.length ∧ j.T.length = N ∧ J cap j.taken j.low j.L j.T j.X j.made j.i → l.length - j.i < l.length - i → VLoop cxP E b4 (stP room l cap N j.i j.taken j.low j.L j.T j.X j.made) K) (hgo : i < l.length) (h80 : l.length ≤ 80) {a : Ac} (ha : l[i]? = some a) (hb : lightL a.l = true) (hkd : a.k.tmod 5 = 2) (hm : a.k ≥ 128) : VLoop cxP E b4 (stP room l cap N i taken low L T X made) K := by
  have pA := pure_A l
  have lA : (l.map encA).length = l.length := by simp
  have hw : IntKind.i64.wrap ((i : Int) + 1) = ((i + 1 : Nat) : Int) := wrap64 (by omega) (by omega)
  have hXN : X.length = N := by rw [h.lenX, hTN]
  have ga : lget (l.map encA) ((i : Int).toNat) = some (encA a) := by rw [lget_eq, Int.toNat_natCast, List.getElem?_map, ha]; rfl
  have cL := lightL_ok a.l
  have pa := pure_E a.l
  rw [hb] at cL
  obtain ⟨hal, hae⟩ := light_E hb
  refine VLoop.unroll hE (mixedOf _) ?_
  have cMod := mod24_ok a.at_
  generalize a.at_ % 24 = A at cMod
  by_cases hP : hasT T A = true
  case pos =>
    obtain ⟨yes, hTt⟩ := h.yes hP
    have hj := h.put yes hTt hal hae
    have cT := putF h.inv (cap := cap) (taken := taken) yes a.l hal hae
    have c0 := has14 T X made A (by have := h.small; omega)
    rw [hP] at c0
    have y0 := yes.1
    have y1 := (List.getElem?_eq_some_iff.1 hTt).1
    have gX0 : lget (rowX X) (0 + (A).toNat) = some [lV (X.getD (A).toNat none)] := by
      rw [lget_eq, Nat.zero_add, List.getElem?_map, List.getElem?_eq_getElem (by rw [h.lenX]; exact y1), List.getD_eq_getElem?_getD, List.getElem?_eq_getElem (by rw [h.lenX]; exact y1)]; rfl
    have hset : lset (rowX X) (0 + (A).toNat) (lput [lV (X.getD (A).toNat none)] 0 (chV a.l).cells) = rowX (X.set (A).toNat (some a.l)) := by rw [Nat.zero_add, ← rowX_set]; rfl
    generalize X.getD (A).toNat none = x0 at gX0 hset
    obtain ⟨L2, hL2⟩ : ∃ z, z = L.set (A).toNat ⟨true, some a.l⟩ := ⟨_, rfl⟩
    obtain ⟨X2, hX2⟩ : ∃ z, z = X.set (A).toNat (some a.l) := ⟨_, rfl⟩
    have hX2N : X2.length = N := by rw [hX2, List.length_set, hXN]
    rw [← hL2, ← hX2] at hj
    rw [← hL2] at cT
    rw [← hX2] at hset
    by_cases hH : hasT T A = true
    case pos =>
      have cH := has14 (T) (X2) (made) A (by have := hj.small; omega)
      rw [hH] at cH
      obtain ⟨⟨q0, p, q1, q2⟩, q3⟩ := hj.yes hH
      obtain ⟨q4, q5⟩ := hj.good _ p q1 q2
      have cG := getF hj.inv (cap := cap) (taken := taken) q0 q1 q2 q4 q5
      have hAl := (List.getElem?_eq_some_iff.1 q3).1
      have hAn : A.toNat < N := by have := hAl; (try simp only [List.length_set] at this); omega
      have cS := sameX (hj.same _ p q1 q2) q5 q4
      have pS := pure_E (p.l.getD [])
      have gX : lget (rowX (X2)) (0 + (A).toNat) = some [lV ((X2).getD (A).toNat none)] := by
        rw [lget_eq, Nat.zero_add, List.getElem?_map, List.getElem?_eq_getElem (by rw [hj.lenX]; exact hAl), List.getD_eq_getElem?_getD, List.getElem?_eq_getElem (by rw [hj.lenX]; exact hAl)]; rfl
      generalize hx : (X2).getD (A).toNat none = x at cS gX
      generalize p.l.getD [] = g at cG cS pS
      have cN := lenF cap (taken) (low) (L2)
      have cP := pagesF cap (taken) (low) (L2)
      have cM := len14 (T) (X2) (made) (by have := hj.small; omega)
      rw [← hj.tak] at cM
      have hpg : (((L2).length / 8 : Nat) : Int) = made := by have := hj.pgs; omega
      rw [hpg] at cP
      simp only [hTN, hXN, List.length_set, hX2N] at cH cM c0
      have hxv : x = none ∨ ∃ z, x = some z := by cases x with | none => exact .inl rfl | some z => exact .inr ⟨z, rfl⟩
      rcases hxv with rfl | ⟨z, rfl⟩
      all_goals dsimp only [lV] at gX cS
      · skip
        repeat' (conv => whnf); first
         | (refine bcase_of (fun hr => ?_) (fun hr => ?_) <;> (try simp only [decide_eq_true_eq, decide_eq_false_iff_not, ge_iff_le, gt_iff_lt] at hr) <;> try (exfalso; first | omega | (simp at hr; done) | (simp [hkd] at hr; done) | (simp [hj] at hr; done) | (simp at hr; omega)))
         | (apply And.intro; · first | exact Nat.le_of_ble_eq_true rfl | (show indep _ _ = true; kernel_rfl) | decide | exact ⟨by omega, by omega⟩ | exact pa | exact pS | exact pure_E _ | exact ⟨by decide, by decide⟩ | exact ⟨Nat.le_of_ble_eq_true rfl, allOne_of rfl⟩)
         | (apply Exists.intro; apply And.intro; · first | exact rfl | exact cL | exact cMod | exact cS | exact ga | exact gX | exact gX0)
         | rw [hset]
         | (show ∃ r obs' nw, XTriple _ _ _ 23 [.ref (23, 1) 0, i64V (A)] [(23, 1), (1, 1), (2, 1)] [.box (rsC (1, 1) (2, 1) N N (made)), .row 1 (rowB (T)) false, .row 1 (rowX (X2)) false] _ r obs' nw ∧ _; apply Exists.intro; apply Exists.intro; apply Exists.intro; apply And.intro; · (refine ATriple.callN (cH) ?_ ?_ ?_ <;> rfl))
         | (show ∃ r obs' nw, XTriple _ _ _ 23 [.ref (23, 1) 0, i64V (A)] [(23, 1), (1, 1), (2, 1)] [.box (rsC (1, 1) (2, 1) N N (made)), .row 1 (rowB (T)) false, .row 1 (rowX (X)) false] _ r obs' nw ∧ _; apply Exists.intro; apply Exists.intro; apply Exists.intro; apply And.intro; · (refine ATriple.callN (c0) ?_ ?_ ?_ <;> rfl))
         | (show ∃ r obs' nw, XTriple _ _ _ 26 [.ref (23, 1) 0] [(23, 1), (1, 1), (2, 1)] [.box (rsC (1, 1) (2, 1) N N (made)), .row 1 (rowB (T)) false, .row 1 (rowX (X2)) false] _ r obs' nw ∧ _; apply Exists.intro; apply Exists.intro; apply Exists.intro; apply And.intro; · (refine ATriple.callN (cM) ?_ ?_ ?_ <;> rfl))
         | (apply Exists.intro; apply Exists.intro; apply Exists.intro; apply And.intro; · first | (refine ATriple.callN (cG) ?_ ?_ ?_ <;> rfl) | (refine ATriple.callN (cN) ?_ ?_ ?_ <;> rfl) | (refine ATriple.callN (cP) ?_ ?_ ?_ <;> rfl) | (refine ATriple.callN (cT) ?_ ?_ ?_ <;> rfl))
         | fail
        all_goals (conv => whnf)
        refine VLoop.norm [0, 1, 5, 6, 7] [20, 22, 0, 1] ?_
        repeat' (conv => whnf); first
         | (apply And.intro; · first | exact Nat.le_of_ble_eq_true rfl | (show indep _ _ = true; kernel_rfl) | decide | exact pA | exact pure_B' _ | exact pure_X _)
         | (apply Exists.intro; apply And.intro; · first | exact rfl)
         | fail
        rw [hw]
        exact ih ⟨i + 1, taken, low, L2, T, X2, made⟩ ⟨hgo, (by first | exact hT2N | simp [hTN]), hj⟩ (by show l.length - (i + 1) < l.length - i; omega)
      · skip
        repeat' (conv => whnf); first
         | (refine bcase_of (fun hr => ?_) (fun hr => ?_) <;> (try simp only [decide_eq_true_eq, decide_eq_false_iff_not, ge_iff_le, gt_iff_lt] at hr) <;> try (exfalso; first | omega | (simp at hr; done) | (simp [hkd] at hr; done) | (simp [hj] at hr; done) | (simp at hr; omega)))
         | (apply And.intro; · first | exact Nat.le_of_ble_eq_true rfl | (show indep _ _ = true; kernel_rfl) | decide | exact ⟨by omega, by omega⟩ | exact pa | exact pS | exact pure_E _ | exact ⟨by decide, by decide⟩ | exact ⟨Nat.le_of_ble_eq_true rfl, allOne_of rfl⟩)
         | (apply Exists.intro; apply And.intro; · first | exact rfl | exact cL | exact cMod | exact cS | exact ga | exact gX | exact gX0)
         | rw [hset]
         | (show ∃ r obs' nw, XTriple _ _ _ 23 [.ref (23, 1) 0, i64V (A)] [(23, 1), (1, 1), (2, 1)] [.box (rsC (1, 1) (2, 1) N N (made)), .row 1 (rowB (T)) false, .row 1 (rowX (X2)) false] _ r obs' nw ∧ _; apply Exists.intro; apply Exists.intro; apply Exists.intro; apply And.intro; · (refine ATriple.callN (cH) ?_ ?_ ?_ <;> rfl))
         | (show ∃ r obs' nw, XTriple _ _ _ 23 [.ref (23, 1) 0, i64V (A)] [(23, 1), (1, 1), (2, 1)] [.box (rsC (1, 1) (2, 1) N N (made)), .row 1 (rowB (T)) false, .row 1 (rowX (X)) false] _ r obs' nw ∧ _; apply Exists.intro; apply Exists.intro; apply Exists.intro; apply And.intro; · (refine ATriple.callN (c0) ?_ ?_ ?_ <;> rfl))
         | (show ∃ r obs' nw, XTriple _ _ _ 26 [.ref (23, 1) 0] [(23, 1), (1, 1), (2, 1)] [.box (rsC (1, 1) (2, 1) N N (made)), .row 1 (rowB (T)) false, .row 1 (rowX (X2)) false] _ r obs' nw ∧ _; apply Exists.intro; apply Exists.intro; apply Exists.intro; apply And.intro; · (refine ATriple.callN (cM) ?_ ?_ ?_ <;> rfl))
         | (apply Exists.intro; apply Exists.intro; apply Exists.intro; apply And.intro; · first | (refine ATriple.callN (cG) ?_ ?_ ?_ <;> rfl) | (refine ATriple.callN (cN) ?_ ?_ ?_ <;> rfl) | (refine ATriple.callN (cP) ?_ ?_ ?_ <;> rfl) | (refine ATriple.callN (cT) ?_ ?_ ?_ <;> rfl))
         | fail
        all_goals (conv => whnf)
        refine VLoop.norm [0, 1, 5, 6, 7] [20, 22, 0, 1] ?_
        repeat' (conv => whnf); first
         | (apply And.intro; · first | exact Nat.le_of_ble_eq_true rfl | (show indep _ _ = true; kernel_rfl) | decide | exact pA | exact pure_B' _ | exact pure_X _)
         | (apply Exists.intro; apply And.intro; · first | exact rfl)
         | fail
        rw [hw]
        exact ih ⟨i + 1, taken, low, L2, T, X2, made⟩ ⟨hgo, (by first | exact hT2N | simp [hTN]), hj⟩ (by show l.length - (i + 1) < l.length - i; omega)
    case neg =>
      exact absurd hP hH
  case neg =>
    have hP : hasT T A = false := by simpa using hP
    have hj := h.next
    have cT := putN h.inv (cap := cap) (taken := taken) (h.no hP) a.l
    by_cases hH : hasT T A = true
    case pos =>
      exact absurd hH (by rw [hP]; decide)
    case neg =>
      have cH := has14 (T) (X) (made) A (by have := hj.small; omega)
      have hH : hasT (T) A = false := by simpa using hH
      rw [hH] at cH
      have cG := getN hj.inv (cap := cap) (taken := taken) (hj.no hH)
      have cN := lenF cap (taken) (low) (L)
      have cP := pagesF cap (taken) (low) (L)
      have cM := len14 (T) (X) (made) (by have := hj.small; omega)
      rw [← hj.tak] at cM
      have hpg : (((L).length / 8 : Nat) : Int) = made := by have := hj.pgs; omega
      rw [hpg] at cP
      simp only [hTN, hXN, List.length_set] at cH cM 
      repeat' (conv => whnf); first
       | (refine bcase_of (fun hr => ?_) (fun hr => ?_) <;> (try simp only [decide_eq_true_eq, decide_eq_false_iff_not, ge_iff_le, gt_iff_lt] at hr) <;> try (exfalso; first | omega | (simp at hr; done) | (simp [hkd] at hr; done) | (simp [hj] at hr; done) | (simp at hr; omega)))
       | (apply And.intro; · first | exact Nat.le_of_ble_eq_true rfl | (show indep _ _ = true; kernel_rfl) | decide | exact ⟨by omega, by omega⟩ | exact pa | exact ⟨by decide, by decide⟩ | exact ⟨Nat.le_of_ble_eq_true rfl, allOne_of rfl⟩)
       | (apply Exists.intro; apply And.intro; · first | exact rfl | exact cL | exact cMod | exact ga)
       | (show ∃ r obs' nw, XTriple _ _ _ 23 [.ref (23, 1) 0, i64V (A)] [(23, 1), (1, 1), (2, 1)] [.box (rsC (1, 1) (2, 1) N N (made)), .row 1 (rowB (T)) false, .row 1 (rowX (X)) false] _ r obs' nw ∧ _; apply Exists.intro; apply Exists.intro; apply Exists.intro; apply And.intro; · (refine ATriple.callN (cH) ?_ ?_ ?_ <;> rfl))
       | (show ∃ r obs' nw, XTriple _ _ _ 26 [.ref (23, 1) 0] [(23, 1), (1, 1), (2, 1)] [.box (rsC (1, 1) (2, 1) N N (made)), .row 1 (rowB (T)) false, .row 1 (rowX (X)) false] _ r obs' nw ∧ _; apply Exists.intro; apply Exists.intro; apply Exists.intro; apply And.intro; · (refine ATriple.callN (cM) ?_ ?_ ?_ <;> rfl))
       | (apply Exists.intro; apply Exists.intro; apply Exists.intro; apply And.intro; · first | (refine ATriple.callN (cG) ?_ ?_ ?_ <;> rfl) | (refine ATriple.callN (cN) ?_ ?_ ?_ <;> rfl) | (refine ATriple.callN (cP) ?_ ?_ ?_ <;> rfl) | (refine ATriple.callN (cT) ?_ ?_ ?_ <;> rfl))
       | fail
      all_goals (conv => whnf)
      refine VLoop.norm [0, 1, 5, 6, 7] [20, 22, 0, 1] ?_
      repeat' (conv => whnf); first
       | (apply And.intro; · first | exact Nat.le_of_ble_eq_true rfl | (show indep _ _ = true; kernel_rfl) | decide | exact pA | exact pure_B' _ | exact pure_X _)
       | (apply Exists.intro; apply And.intro; · first | exact rfl)
       | fail
      rw [hw]
      exact ih ⟨i + 1, taken, low, L, T, X, made⟩ ⟨hgo, (by first | exact hT2N | simp [hTN]), hj⟩ (by show l.length - (i + 1) < l.length - i; omega)
theorem plays_2n {E : Env} (hE : EOk cxP E) {K : Exit → St DV → Prop} (room : Int) (l : List Ac) (cap : Int) (N i : Nat) (taken low : Int) (L : List Pl) (T : List Bool) (X : List (Option (List En))) (made : Int) (hTN : T.length = N) (h : J cap taken low L T X made i) (ih : ∀ j : ZP, j.i ≤ l.length ∧ j.T.length = N ∧ J cap j.taken j.low j.L j.T j.X j.made j.i → l.length - j.i < l.length - i → VLoop cxP E b4 (stP room l cap N j.i j.taken j.low j.L j.T j.X j.made) K) (hgo : i < l.length) (h80 : l.length ≤ 80) {a : Ac} (ha : l[i]? = some a) (hb : lightL a.l = true) (hkd : a.k.tmod 5 = 2) (hm : ¬ a.k ≥ 128) : VLoop cxP E b4 (stP room l cap N i taken low L T X made) K := by
  have pA := pure_A l
  have lA : (l.map encA).length = l.length := by simp
  have hw : IntKind.i64.wrap ((i : Int) + 1) = ((i + 1 : Nat) : Int) := wrap64 (by omega) (by omega)
  have hXN : X.length = N := by rw [h.lenX, hTN]
  have ga : lget (l.map encA) ((i : Int).toNat) = some (encA a) := by rw [lget_eq, Int.toNat_natCast, List.getElem?_map, ha]; rfl
  have cL := lightL_ok a.l
  have pa := pure_E a.l
  rw [hb] at cL
  obtain ⟨hal, hae⟩ := light_E hb
  refine VLoop.unroll hE (mixedOf _) ?_
  by_cases hP : hasT T a.at_ = true
  case pos =>
    obtain ⟨yes, hTt⟩ := h.yes hP
    have hj := h.put yes hTt hal hae
    have cT := putF h.inv (cap := cap) (taken := taken) yes a.l hal hae
    have c0 := has14 T X made a.at_ (by have := h.small; omega)
    rw [hP] at c0
    have y0 := yes.1
    have y1 := (List.getElem?_eq_some_iff.1 hTt).1
    have gX0 : lget (rowX X) (0 + (a.at_).toNat) = some [lV (X.getD (a.at_).toNat none)] := by
      rw [lget_eq, Nat.zero_add, List.getElem?_map, List.getElem?_eq_getElem (by rw [h.lenX]; exact y1), List.getD_eq_getElem?_getD, List.getElem?_eq_getElem (by rw [h.lenX]; exact y1)]; rfl
    have hset : lset (rowX X) (0 + (a.at_).toNat) (lput [lV (X.getD (a.at_).toNat none)] 0 (chV a.l).cells) = rowX (X.set (a.at_).toNat (some a.l)) := by rw [Nat.zero_add, ← rowX_set]; rfl
    generalize X.getD (a.at_).toNat none = x0 at gX0 hset
    obtain ⟨L2, hL2⟩ : ∃ z, z = L.set (a.at_).toNat ⟨true, some a.l⟩ := ⟨_, rfl⟩
    obtain ⟨X2, hX2⟩ : ∃ z, z = X.set (a.at_).toNat (some a.l) := ⟨_, rfl⟩
    have hX2N : X2.length = N := by rw [hX2, List.length_set, hXN]
    rw [← hL2, ← hX2] at hj
    rw [← hL2] at cT
    rw [← hX2] at hset
    by_cases hH : hasT T a.at_ = true
    case pos =>
      have cH := has14 (T) (X2) (made) a.at_ (by have := hj.small; omega)
      rw [hH] at cH
      obtain ⟨⟨q0, p, q1, q2⟩, q3⟩ := hj.yes hH
      obtain ⟨q4, q5⟩ := hj.good _ p q1 q2
      have cG := getF hj.inv (cap := cap) (taken := taken) q0 q1 q2 q4 q5
      have hAl := (List.getElem?_eq_some_iff.1 q3).1
      have hAn : a.at_.toNat < N := by have := hAl; (try simp only [List.length_set] at this); omega
      have cS := sameX (hj.same _ p q1 q2) q5 q4
      have pS := pure_E (p.l.getD [])
      have gX : lget (rowX (X2)) (0 + (a.at_).toNat) = some [lV ((X2).getD (a.at_).toNat none)] := by
        rw [lget_eq, Nat.zero_add, List.getElem?_map, List.getElem?_eq_getElem (by rw [hj.lenX]; exact hAl), List.getD_eq_getElem?_getD, List.getElem?_eq_getElem (by rw [hj.lenX]; exact hAl)]; rfl
      generalize hx : (X2).getD (a.at_).toNat none = x at cS gX
      generalize p.l.getD [] = g at cG cS pS
      have cN := lenF cap (taken) (low) (L2)
      have cP := pagesF cap (taken) (low) (L2)
      have cM := len14 (T) (X2) (made) (by have := hj.small; omega)
      rw [← hj.tak] at cM
      have hpg : (((L2).length / 8 : Nat) : Int) = made := by have := hj.pgs; omega
      rw [hpg] at cP
      simp only [hTN, hXN, List.length_set, hX2N] at cH cM c0
      have hxv : x = none ∨ ∃ z, x = some z := by cases x with | none => exact .inl rfl | some z => exact .inr ⟨z, rfl⟩
      rcases hxv with rfl | ⟨z, rfl⟩
      all_goals dsimp only [lV] at gX cS
      · skip
        repeat' (conv => whnf); first
         | (refine bcase_of (fun hr => ?_) (fun hr => ?_) <;> (try simp only [decide_eq_true_eq, decide_eq_false_iff_not, ge_iff_le, gt_iff_lt] at hr) <;> try (exfalso; first | omega | (simp at hr; done) | (simp [hkd] at hr; done) | (simp [hj] at hr; done) | (simp at hr; omega)))
         | (apply And.intro; · first | exact Nat.le_of_ble_eq_true rfl | (show indep _ _ = true; kernel_rfl) | decide | exact ⟨by omega, by omega⟩ | exact pa | exact pS | exact pure_E _ | exact ⟨by decide, by decide⟩ | exact ⟨Nat.le_of_ble_eq_true rfl, allOne_of rfl⟩)
         | (apply Exists.intro; apply And.intro; · first | exact rfl | exact cL | exact cS | exact ga | exact gX | exact gX0)
         | rw [hset]
         | (show ∃ r obs' nw, XTriple _ _ _ 23 [.ref (23, 1) 0, i64V (a.at_)] [(23, 1), (1, 1), (2, 1)] [.box (rsC (1, 1) (2, 1) N N (made)), .row 1 (rowB (T)) false, .row 1 (rowX (X2)) false] _ r obs' nw ∧ _; apply Exists.intro; apply Exists.intro; apply Exists.intro; apply And.intro; · (refine ATriple.callN (cH) ?_ ?_ ?_ <;> rfl))
         | (show ∃ r obs' nw, XTriple _ _ _ 23 [.ref (23, 1) 0, i64V (a.at_)] [(23, 1), (1, 1), (2, 1)] [.box (rsC (1, 1) (2, 1) N N (made)), .row 1 (rowB (T)) false, .row 1 (rowX (X)) false] _ r obs' nw ∧ _; apply Exists.intro; apply Exists.intro; apply Exists.intro; apply And.intro; · (refine ATriple.callN (c0) ?_ ?_ ?_ <;> rfl))
         | (show ∃ r obs' nw, XTriple _ _ _ 26 [.ref (23, 1) 0] [(23, 1), (1, 1), (2, 1)] [.box (rsC (1, 1) (2, 1) N N (made)), .row 1 (rowB (T)) false, .row 1 (rowX (X2)) false] _ r obs' nw ∧ _; apply Exists.intro; apply Exists.intro; apply Exists.intro; apply And.intro; · (refine ATriple.callN (cM) ?_ ?_ ?_ <;> rfl))
         | (apply Exists.intro; apply Exists.intro; apply Exists.intro; apply And.intro; · first | (refine ATriple.callN (cG) ?_ ?_ ?_ <;> rfl) | (refine ATriple.callN (cN) ?_ ?_ ?_ <;> rfl) | (refine ATriple.callN (cP) ?_ ?_ ?_ <;> rfl) | (refine ATriple.callN (cT) ?_ ?_ ?_ <;> rfl))
         | fail
        all_goals (conv => whnf)
        refine VLoop.norm [0, 1, 5, 6, 7] [20, 22, 0, 1] ?_
        repeat' (conv => whnf); first
         | (apply And.intro; · first | exact Nat.le_of_ble_eq_true rfl | (show indep _ _ = true; kernel_rfl) | decide | exact pA | exact pure_B' _ | exact pure_X _)
         | (apply Exists.intro; apply And.intro; · first | exact rfl)
         | fail
        rw [hw]
        exact ih ⟨i + 1, taken, low, L2, T, X2, made⟩ ⟨hgo, (by first | exact hT2N | simp [hTN]), hj⟩ (by show l.length - (i + 1) < l.length - i; omega)
      · skip
        repeat' (conv => whnf); first
         | (refine bcase_of (fun hr => ?_) (fun hr => ?_) <;> (try simp only [decide_eq_true_eq, decide_eq_false_iff_not, ge_iff_le, gt_iff_lt] at hr) <;> try (exfalso; first | omega | (simp at hr; done) | (simp [hkd] at hr; done) | (simp [hj] at hr; done) | (simp at hr; omega)))
         | (apply And.intro; · first | exact Nat.le_of_ble_eq_true rfl | (show indep _ _ = true; kernel_rfl) | decide | exact ⟨by omega, by omega⟩ | exact pa | exact pS | exact pure_E _ | exact ⟨by decide, by decide⟩ | exact ⟨Nat.le_of_ble_eq_true rfl, allOne_of rfl⟩)
         | (apply Exists.intro; apply And.intro; · first | exact rfl | exact cL | exact cS | exact ga | exact gX | exact gX0)
         | rw [hset]
         | (show ∃ r obs' nw, XTriple _ _ _ 23 [.ref (23, 1) 0, i64V (a.at_)] [(23, 1), (1, 1), (2, 1)] [.box (rsC (1, 1) (2, 1) N N (made)), .row 1 (rowB (T)) false, .row 1 (rowX (X2)) false] _ r obs' nw ∧ _; apply Exists.intro; apply Exists.intro; apply Exists.intro; apply And.intro; · (refine ATriple.callN (cH) ?_ ?_ ?_ <;> rfl))
         | (show ∃ r obs' nw, XTriple _ _ _ 23 [.ref (23, 1) 0, i64V (a.at_)] [(23, 1), (1, 1), (2, 1)] [.box (rsC (1, 1) (2, 1) N N (made)), .row 1 (rowB (T)) false, .row 1 (rowX (X)) false] _ r obs' nw ∧ _; apply Exists.intro; apply Exists.intro; apply Exists.intro; apply And.intro; · (refine ATriple.callN (c0) ?_ ?_ ?_ <;> rfl))
         | (show ∃ r obs' nw, XTriple _ _ _ 26 [.ref (23, 1) 0] [(23, 1), (1, 1), (2, 1)] [.box (rsC (1, 1) (2, 1) N N (made)), .row 1 (rowB (T)) false, .row 1 (rowX (X2)) false] _ r obs' nw ∧ _; apply Exists.intro; apply Exists.intro; apply Exists.intro; apply And.intro; · (refine ATriple.callN (cM) ?_ ?_ ?_ <;> rfl))
         | (apply Exists.intro; apply Exists.intro; apply Exists.intro; apply And.intro; · first | (refine ATriple.callN (cG) ?_ ?_ ?_ <;> rfl) | (refine ATriple.callN (cN) ?_ ?_ ?_ <;> rfl) | (refine ATriple.callN (cP) ?_ ?_ ?_ <;> rfl) | (refine ATriple.callN (cT) ?_ ?_ ?_ <;> rfl))
         | fail
        all_goals (conv => whnf)
        refine VLoop.norm [0, 1, 5, 6, 7] [20, 22, 0, 1] ?_
        repeat' (conv => whnf); first
         | (apply And.intro; · first | exact Nat.le_of_ble_eq_true rfl | (show indep _ _ = true; kernel_rfl) | decide | exact pA | exact pure_B' _ | exact pure_X _)
         | (apply Exists.intro; apply And.intro; · first | exact rfl)
         | fail
        rw [hw]
        exact ih ⟨i + 1, taken, low, L2, T, X2, made⟩ ⟨hgo, (by first | exact hT2N | simp [hTN]), hj⟩ (by show l.length - (i + 1) < l.length - i; omega)
    case neg =>
      exact absurd hP hH
  case neg =>
    have hP : hasT T a.at_ = false := by simpa using hP
    have hj := h.next
    have cT := putN h.inv (cap := cap) (taken := taken) (h.no hP) a.l
    by_cases hH : hasT T a.at_ = true
    case pos =>
      exact absurd hH (by rw [hP]; decide)
    case neg =>
      have cH := has14 (T) (X) (made) a.at_ (by have := hj.small; omega)
      have hH : hasT (T) a.at_ = false := by simpa using hH
      rw [hH] at cH
      have cG := getN hj.inv (cap := cap) (taken := taken) (hj.no hH)
      have cN := lenF cap (taken) (low) (L)
      have cP := pagesF cap (taken) (low) (L)
      have cM := len14 (T) (X) (made) (by have := hj.small; omega)
      rw [← hj.tak] at cM
      have hpg : (((L).length / 8 : Nat) : Int) = made := by have := hj.pgs; omega
      rw [hpg] at cP
      simp only [hTN, hXN, List.length_set] at cH cM 
      repeat' (conv => whnf); first
       | (refine bcase_of (fun hr => ?_) (fun hr => ?_) <;> (try simp only [decide_eq_true_eq, decide_eq_false_iff_not, ge_iff_le, gt_iff_lt] at hr) <;> try (exfalso; first | omega | (simp at hr; done) | (simp [hkd] at hr; done) | (simp [hj] at hr; done) | (simp at hr; omega)))
       | (apply And.intro; · first | exact Nat.le_of_ble_eq_true rfl | (show indep _ _ = true; kernel_rfl) | decide | exact ⟨by omega, by omega⟩ | exact pa | exact ⟨by decide, by decide⟩ | exact ⟨Nat.le_of_ble_eq_true rfl, allOne_of rfl⟩)
       | (apply Exists.intro; apply And.intro; · first | exact rfl | exact cL | exact ga)
       | (show ∃ r obs' nw, XTriple _ _ _ 23 [.ref (23, 1) 0, i64V (a.at_)] [(23, 1), (1, 1), (2, 1)] [.box (rsC (1, 1) (2, 1) N N (made)), .row 1 (rowB (T)) false, .row 1 (rowX (X)) false] _ r obs' nw ∧ _; apply Exists.intro; apply Exists.intro; apply Exists.intro; apply And.intro; · (refine ATriple.callN (cH) ?_ ?_ ?_ <;> rfl))
       | (show ∃ r obs' nw, XTriple _ _ _ 26 [.ref (23, 1) 0] [(23, 1), (1, 1), (2, 1)] [.box (rsC (1, 1) (2, 1) N N (made)), .row 1 (rowB (T)) false, .row 1 (rowX (X)) false] _ r obs' nw ∧ _; apply Exists.intro; apply Exists.intro; apply Exists.intro; apply And.intro; · (refine ATriple.callN (cM) ?_ ?_ ?_ <;> rfl))
       | (apply Exists.intro; apply Exists.intro; apply Exists.intro; apply And.intro; · first | (refine ATriple.callN (cG) ?_ ?_ ?_ <;> rfl) | (refine ATriple.callN (cN) ?_ ?_ ?_ <;> rfl) | (refine ATriple.callN (cP) ?_ ?_ ?_ <;> rfl) | (refine ATriple.callN (cT) ?_ ?_ ?_ <;> rfl))
       | fail
      all_goals (conv => whnf)
      refine VLoop.norm [0, 1, 5, 6, 7] [20, 22, 0, 1] ?_
      repeat' (conv => whnf); first
       | (apply And.intro; · first | exact Nat.le_of_ble_eq_true rfl | (show indep _ _ = true; kernel_rfl) | decide | exact pA | exact pure_B' _ | exact pure_X _)
       | (apply Exists.intro; apply And.intro; · first | exact rfl)
       | fail
      rw [hw]
      exact ih ⟨i + 1, taken, low, L, T, X, made⟩ ⟨hgo, (by first | exact hT2N | simp [hTN]), hj⟩ (by show l.length - (i + 1) < l.length - i; omega)
theorem plays_3m {E : Env} (hE : EOk cxP E) {K : Exit → St DV → Prop} (room : Int) (l : List Ac) (cap : Int) (N i : Nat) (taken low : Int) (L : List Pl) (T : List Bool) (X : List (Option (List En))) (made : Int) (hTN : T.length = N) (h : J cap taken low L T X made i) (ih : ∀ j : ZP, j.i ≤ l.length ∧ j.T.length = N ∧ J cap j.taken j.low j.L j.T j.X j.made j.i → l.length - j.i < l.length - i → VLoop cxP E b4 (stP room l cap N j.i j.taken j.low j.L j.T j.X j.made) K) (hgo : i < l.length) (h80 : l.length ≤ 80) {a : Ac} (ha : l[i]? = some a) (hb : lightL a.l = true) (hkd : a.k.tmod 5 = 3) (hm : a.k ≥ 128) : VLoop cxP E b4 (stP room l cap N i taken low L T X made) K := by
  have pA := pure_A l
  have lA : (l.map encA).length = l.length := by simp
  have hw : IntKind.i64.wrap ((i : Int) + 1) = ((i + 1 : Nat) : Int) := wrap64 (by omega) (by omega)
  have hXN : X.length = N := by rw [h.lenX, hTN]
  have ga : lget (l.map encA) ((i : Int).toNat) = some (encA a) := by rw [lget_eq, Int.toNat_natCast, List.getElem?_map, ha]; rfl
  have cL := lightL_ok a.l
  have pa := pure_E a.l
  rw [hb] at cL
  obtain ⟨hal, hae⟩ := light_E hb
  refine VLoop.unroll hE (mixedOf _) ?_
  have cMod := mod24_ok a.at_
  generalize a.at_ % 24 = A at cMod
  by_cases hP : hasT T A = true
  case pos =>
    obtain ⟨yes, hTt⟩ := h.yes hP
    have hj := h.free yes hTt
    have cT := freeF h.inv (cap := cap) (taken := taken) yes
    have c0 := has14 T X made A (by have := h.small; omega)
    rw [hP] at c0
    have y0 := yes.1
    have y1 := (List.getElem?_eq_some_iff.1 hTt).1
    have gB0 := getB' hTt
    have hset : lset (rowB T) (0 + (A).toNat) (lput [.bool true] 0 (V.bool false).cells) = rowB (T.set (A).toNat false) := by rw [Nat.zero_add, ← rowB_set]; rfl
    obtain ⟨tk2, htk⟩ : ∃ z, z = IntKind.i64.wrap (taken - 1) := ⟨_, rfl⟩
    obtain ⟨lo2, hlo⟩ : ∃ z, z = (if A < low then A else low) := ⟨_, rfl⟩
    rw [← htk, ← hlo] at cT hj
    obtain ⟨L2, hL2⟩ : ∃ z, z = L.set (A).toNat ⟨false, none⟩ := ⟨_, rfl⟩
    obtain ⟨T2, hT2⟩ : ∃ z, z = T.set (A).toNat false := ⟨_, rfl⟩
    have hT2N : T2.length = N := by rw [hT2, List.length_set, hTN]
    rw [← hL2, ← hT2] at hj
    rw [← hL2] at cT
    rw [← hT2] at hset
    by_cases hH : hasT T2 A = true
    case pos =>
      have q3 := (hj.yes hH).2
      rw [hT2, List.getElem?_set_self y1] at q3
      cases q3
    case neg =>
      have cH := has14 (T2) (X) (made) A (by have := hj.small; omega)
      have hH : hasT (T2) A = false := by simpa using hH
      rw [hH] at cH
      have cG := getN hj.inv (cap := cap) (taken := tk2) (hj.no hH)
      have cN := lenF cap (tk2) (lo2) (L2)
      have cP := pagesF cap (tk2) (lo2) (L2)
      have cM := len14 (T2) (X) (made) (by have := hj.small; omega)
      rw [← hj.tak] at cM
      have hpg : (((L2).length / 8 : Nat) : Int) = made := by have := hj.pgs; omega
      rw [hpg] at cP
      simp only [hTN, hXN, List.length_set, hT2N] at cH cM c0
      repeat' (conv => whnf); first
       | (refine bcase_of (fun hr => ?_) (fun hr => ?_) <;> (try simp only [decide_eq_true_eq, decide_eq_false_iff_not, ge_iff_le, gt_iff_lt] at hr) <;> try (exfalso; first | omega | (simp at hr; done) | (simp [hkd] at hr; done) | (simp [hj] at hr; done) | (simp at hr; omega)))
       | (apply And.intro; · first | exact Nat.le_of_ble_eq_true rfl | (show indep _ _ = true; kernel_rfl) | decide | exact ⟨by omega, by omega⟩ | exact pa | exact ⟨by decide, by decide⟩ | exact ⟨Nat.le_of_ble_eq_true rfl, allOne_of rfl⟩)
       | (apply Exists.intro; apply And.intro; · first | exact rfl | exact cL | exact cMod | exact ga | exact gB0)
       | rw [hset]
       | (show ∃ r obs' nw, XTriple _ _ _ 23 [.ref (23, 1) 0, i64V (A)] [(23, 1), (1, 1), (2, 1)] [.box (rsC (1, 1) (2, 1) N N (made)), .row 1 (rowB (T2)) false, .row 1 (rowX (X)) false] _ r obs' nw ∧ _; apply Exists.intro; apply Exists.intro; apply Exists.intro; apply And.intro; · (refine ATriple.callN (cH) ?_ ?_ ?_ <;> rfl))
       | (show ∃ r obs' nw, XTriple _ _ _ 23 [.ref (23, 1) 0, i64V (A)] [(23, 1), (1, 1), (2, 1)] [.box (rsC (1, 1) (2, 1) N N (made)), .row 1 (rowB (T)) false, .row 1 (rowX (X)) false] _ r obs' nw ∧ _; apply Exists.intro; apply Exists.intro; apply Exists.intro; apply And.intro; · (refine ATriple.callN (c0) ?_ ?_ ?_ <;> rfl))
       | (show ∃ r obs' nw, XTriple _ _ _ 26 [.ref (23, 1) 0] [(23, 1), (1, 1), (2, 1)] [.box (rsC (1, 1) (2, 1) N N (made)), .row 1 (rowB (T2)) false, .row 1 (rowX (X)) false] _ r obs' nw ∧ _; apply Exists.intro; apply Exists.intro; apply Exists.intro; apply And.intro; · (refine ATriple.callN (cM) ?_ ?_ ?_ <;> rfl))
       | (apply Exists.intro; apply Exists.intro; apply Exists.intro; apply And.intro; · first | (refine ATriple.callN (cG) ?_ ?_ ?_ <;> rfl) | (refine ATriple.callN (cN) ?_ ?_ ?_ <;> rfl) | (refine ATriple.callN (cP) ?_ ?_ ?_ <;> rfl) | (refine ATriple.callN (cT) ?_ ?_ ?_ <;> rfl))
       | fail
      all_goals (conv => whnf)
      refine VLoop.norm [0, 1, 5, 6, 7] [20, 22, 0, 1] ?_
      repeat' (conv => whnf); first
       | (apply And.intro; · first | exact Nat.le_of_ble_eq_true rfl | (show indep _ _ = true; kernel_rfl) | decide | exact pA | exact pure_B' _ | exact pure_X _)
       | (apply Exists.intro; apply And.intro; · first | exact rfl)
       | fail
      rw [hw]
      exact ih ⟨i + 1, tk2, lo2, L2, T2, X, made⟩ ⟨hgo, (by first | exact hT2N | simp [hTN]), hj⟩ (by show l.length - (i + 1) < l.length - i; omega)
  case neg =>
    have hP : hasT T A = false := by simpa using hP
    have hj := h.next
    have cT := freeN h.inv (cap := cap) (taken := taken) (h.no hP)
    by_cases hH : hasT T A = true
    case pos =>
      exact absurd hH (by rw [hP]; decide)
    case neg =>
      have cH := has14 (T) (X) (made) A (by have := hj.small; omega)
      have hH : hasT (T) A = false := by simpa using hH
      rw [hH] at cH
      have cG := getN hj.inv (cap := cap) (taken := taken) (hj.no hH)
      have cN := lenF cap (taken) (low) (L)
      have cP := pagesF cap (taken) (low) (L)
      have cM := len14 (T) (X) (made) (by have := hj.small; omega)
      rw [← hj.tak] at cM
      have hpg : (((L).length / 8 : Nat) : Int) = made := by have := hj.pgs; omega
      rw [hpg] at cP
      simp only [hTN, hXN, List.length_set] at cH cM 
      repeat' (conv => whnf); first
       | (refine bcase_of (fun hr => ?_) (fun hr => ?_) <;> (try simp only [decide_eq_true_eq, decide_eq_false_iff_not, ge_iff_le, gt_iff_lt] at hr) <;> try (exfalso; first | omega | (simp at hr; done) | (simp [hkd] at hr; done) | (simp [hj] at hr; done) | (simp at hr; omega)))
       | (apply And.intro; · first | exact Nat.le_of_ble_eq_true rfl | (show indep _ _ = true; kernel_rfl) | decide | exact ⟨by omega, by omega⟩ | exact pa | exact ⟨by decide, by decide⟩ | exact ⟨Nat.le_of_ble_eq_true rfl, allOne_of rfl⟩)
       | (apply Exists.intro; apply And.intro; · first | exact rfl | exact cL | exact cMod | exact ga)
       | (show ∃ r obs' nw, XTriple _ _ _ 23 [.ref (23, 1) 0, i64V (A)] [(23, 1), (1, 1), (2, 1)] [.box (rsC (1, 1) (2, 1) N N (made)), .row 1 (rowB (T)) false, .row 1 (rowX (X)) false] _ r obs' nw ∧ _; apply Exists.intro; apply Exists.intro; apply Exists.intro; apply And.intro; · (refine ATriple.callN (cH) ?_ ?_ ?_ <;> rfl))
       | (show ∃ r obs' nw, XTriple _ _ _ 26 [.ref (23, 1) 0] [(23, 1), (1, 1), (2, 1)] [.box (rsC (1, 1) (2, 1) N N (made)), .row 1 (rowB (T)) false, .row 1 (rowX (X)) false] _ r obs' nw ∧ _; apply Exists.intro; apply Exists.intro; apply Exists.intro; apply And.intro; · (refine ATriple.callN (cM) ?_ ?_ ?_ <;> rfl))
       | (apply Exists.intro; apply Exists.intro; apply Exists.intro; apply And.intro; · first | (refine ATriple.callN (cG) ?_ ?_ ?_ <;> rfl) | (refine ATriple.callN (cN) ?_ ?_ ?_ <;> rfl) | (refine ATriple.callN (cP) ?_ ?_ ?_ <;> rfl) | (refine ATriple.callN (cT) ?_ ?_ ?_ <;> rfl))
       | fail
      all_goals (conv => whnf)
      refine VLoop.norm [0, 1, 5, 6, 7] [20, 22, 0, 1] ?_
      repeat' (conv => whnf); first
       | (apply And.intro; · first | exact Nat.le_of_ble_eq_true rfl | (show indep _ _ = true; kernel_rfl) | decide | exact pA | exact pure_B' _ | exact pure_X _)
       | (apply Exists.intro; apply And.intro; · first | exact rfl)
       | fail
      rw [hw]
      exact ih ⟨i + 1, taken, low, L, T, X, made⟩ ⟨hgo, (by first | exact hT2N | simp [hTN]), hj⟩ (by show l.length - (i + 1) < l.length - i; omega)
theorem plays_3n {E : Env} (hE : EOk cxP E) {K : Exit → St DV → Prop} (room : Int) (l : List Ac) (cap : Int) (N i : Nat) (taken low : Int) (L : List Pl) (T : List Bool) (X : List (Option (List En))) (made : Int) (hTN : T.length = N) (h : J cap taken low L T X made i) (ih : ∀ j : ZP, j.i ≤ l.length ∧ j.T.length = N ∧ J cap j.taken j.low j.L j.T j.X j.made j.i → l.length - j.i < l.length - i → VLoop cxP E b4 (stP room l cap N j.i j.taken j.low j.L j.T j.X j.made) K) (hgo : i < l.length) (h80 : l.length ≤ 80) {a : Ac} (ha : l[i]? = some a) (hb : lightL a.l = true) (hkd : a.k.tmod 5 = 3) (hm : ¬ a.k ≥ 128) : VLoop cxP E b4 (stP room l cap N i taken low L T X made) K := by
  have pA := pure_A l
  have lA : (l.map encA).length = l.length := by simp
  have hw : IntKind.i64.wrap ((i : Int) + 1) = ((i + 1 : Nat) : Int) := wrap64 (by omega) (by omega)
  have hXN : X.length = N := by rw [h.lenX, hTN]
  have ga : lget (l.map encA) ((i : Int).toNat) = some (encA a) := by rw [lget_eq, Int.toNat_natCast, List.getElem?_map, ha]; rfl
  have cL := lightL_ok a.l
  have pa := pure_E a.l
  rw [hb] at cL
  obtain ⟨hal, hae⟩ := light_E hb
  refine VLoop.unroll hE (mixedOf _) ?_
  by_cases hP : hasT T a.at_ = true
  case pos =>
    obtain ⟨yes, hTt⟩ := h.yes hP
    have hj := h.free yes hTt
    have cT := freeF h.inv (cap := cap) (taken := taken) yes
    have c0 := has14 T X made a.at_ (by have := h.small; omega)
    rw [hP] at c0
    have y0 := yes.1
    have y1 := (List.getElem?_eq_some_iff.1 hTt).1
    have gB0 := getB' hTt
    have hset : lset (rowB T) (0 + (a.at_).toNat) (lput [.bool true] 0 (V.bool false).cells) = rowB (T.set (a.at_).toNat false) := by rw [Nat.zero_add, ← rowB_set]; rfl
    obtain ⟨tk2, htk⟩ : ∃ z, z = IntKind.i64.wrap (taken - 1) := ⟨_, rfl⟩
    obtain ⟨lo2, hlo⟩ : ∃ z, z = (if a.at_ < low then a.at_ else low) := ⟨_, rfl⟩
    rw [← htk, ← hlo] at cT hj
    obtain ⟨L2, hL2⟩ : ∃ z, z = L.set (a.at_).toNat ⟨false, none⟩ := ⟨_, rfl⟩
    obtain ⟨T2, hT2⟩ : ∃ z, z = T.set (a.at_).toNat false := ⟨_, rfl⟩
    have hT2N : T2.length = N := by rw [hT2, List.length_set, hTN]
    rw [← hL2, ← hT2] at hj
    rw [← hL2] at cT
    rw [← hT2] at hset
    by_cases hH : hasT T2 a.at_ = true
    case pos =>
      have q3 := (hj.yes hH).2
      rw [hT2, List.getElem?_set_self y1] at q3
      cases q3
    case neg =>
      have cH := has14 (T2) (X) (made) a.at_ (by have := hj.small; omega)
      have hH : hasT (T2) a.at_ = false := by simpa using hH
      rw [hH] at cH
      have cG := getN hj.inv (cap := cap) (taken := tk2) (hj.no hH)
      have cN := lenF cap (tk2) (lo2) (L2)
      have cP := pagesF cap (tk2) (lo2) (L2)
      have cM := len14 (T2) (X) (made) (by have := hj.small; omega)
      rw [← hj.tak] at cM
      have hpg : (((L2).length / 8 : Nat) : Int) = made := by have := hj.pgs; omega
      rw [hpg] at cP
      simp only [hTN, hXN, List.length_set, hT2N] at cH cM c0
      repeat' (conv => whnf); first
       | (refine bcase_of (fun hr => ?_) (fun hr => ?_) <;> (try simp only [decide_eq_true_eq, decide_eq_false_iff_not, ge_iff_le, gt_iff_lt] at hr) <;> try (exfalso; first | omega | (simp at hr; done) | (simp [hkd] at hr; done) | (simp [hj] at hr; done) | (simp at hr; omega)))
       | (apply And.intro; · first | exact Nat.le_of_ble_eq_true rfl | (show indep _ _ = true; kernel_rfl) | decide | exact ⟨by omega, by omega⟩ | exact pa | exact ⟨by decide, by decide⟩ | exact ⟨Nat.le_of_ble_eq_true rfl, allOne_of rfl⟩)
       | (apply Exists.intro; apply And.intro; · first | exact rfl | exact cL | exact ga | exact gB0)
       | rw [hset]
       | (show ∃ r obs' nw, XTriple _ _ _ 23 [.ref (23, 1) 0, i64V (a.at_)] [(23, 1), (1, 1), (2, 1)] [.box (rsC (1, 1) (2, 1) N N (made)), .row 1 (rowB (T2)) false, .row 1 (rowX (X)) false] _ r obs' nw ∧ _; apply Exists.intro; apply Exists.intro; apply Exists.intro; apply And.intro; · (refine ATriple.callN (cH) ?_ ?_ ?_ <;> rfl))
       | (show ∃ r obs' nw, XTriple _ _ _ 23 [.ref (23, 1) 0, i64V (a.at_)] [(23, 1), (1, 1), (2, 1)] [.box (rsC (1, 1) (2, 1) N N (made)), .row 1 (rowB (T)) false, .row 1 (rowX (X)) false] _ r obs' nw ∧ _; apply Exists.intro; apply Exists.intro; apply Exists.intro; apply And.intro; · (refine ATriple.callN (c0) ?_ ?_ ?_ <;> rfl))
       | (show ∃ r obs' nw, XTriple _ _ _ 26 [.ref (23, 1) 0] [(23, 1), (1, 1), (2, 1)] [.box (rsC (1, 1) (2, 1) N N (made)), .row 1 (rowB (T2)) false, .row 1 (rowX (X)) false] _ r obs' nw ∧ _; apply Exists.intro; apply Exists.intro; apply Exists.intro; apply And.intro; · (refine ATriple.callN (cM) ?_ ?_ ?_ <;> rfl))
       | (apply Exists.intro; apply Exists.intro; apply Exists.intro; apply And.intro; · first | (refine ATriple.callN (cG) ?_ ?_ ?_ <;> rfl) | (refine ATriple.callN (cN) ?_ ?_ ?_ <;> rfl) | (refine ATriple.callN (cP) ?_ ?_ ?_ <;> rfl) | (refine ATriple.callN (cT) ?_ ?_ ?_ <;> rfl))
       | fail
      all_goals (conv => whnf)
      refine VLoop.norm [0, 1, 5, 6, 7] [20, 22, 0, 1] ?_
      repeat' (conv => whnf); first
       | (apply And.intro; · first | exact Nat.le_of_ble_eq_true rfl | (show indep _ _ = true; kernel_rfl) | decide | exact pA | exact pure_B' _ | exact pure_X _)
       | (apply Exists.intro; apply And.intro; · first | exact rfl)
       | fail
      rw [hw]
      exact ih ⟨i + 1, tk2, lo2, L2, T2, X, made⟩ ⟨hgo, (by first | exact hT2N | simp [hTN]), hj⟩ (by show l.length - (i + 1) < l.length - i; omega)
  case neg =>
    have hP : hasT T a.at_ = false := by simpa using hP
    have hj := h.next
    have cT := freeN h.inv (cap := cap) (taken := taken) (h.no hP)
    by_cases hH : hasT T a.at_ = true
    case pos =>
      exact absurd hH (by rw [hP]; decide)
    case neg =>
      have cH := has14 (T) (X) (made) a.at_ (by have := hj.small; omega)
      have hH : hasT (T) a.at_ = false := by simpa using hH
      rw [hH] at cH
      have cG := getN hj.inv (cap := cap) (taken := taken) (hj.no hH)
      have cN := lenF cap (taken) (low) (L)
      have cP := pagesF cap (taken) (low) (L)
      have cM := len14 (T) (X) (made) (by have := hj.small; omega)
      rw [← hj.tak] at cM
      have hpg : (((L).length / 8 : Nat) : Int) = made := by have := hj.pgs; omega
      rw [hpg] at cP
      simp only [hTN, hXN, List.length_set] at cH cM 
      repeat' (conv => whnf); first
       | (refine bcase_of (fun hr => ?_) (fun hr => ?_) <;> (try simp only [decide_eq_true_eq, decide_eq_false_iff_not, ge_iff_le, gt_iff_lt] at hr) <;> try (exfalso; first | omega | (simp at hr; done) | (simp [hkd] at hr; done) | (simp [hj] at hr; done) | (simp at hr; omega)))
       | (apply And.intro; · first | exact Nat.le_of_ble_eq_true rfl | (show indep _ _ = true; kernel_rfl) | decide | exact ⟨by omega, by omega⟩ | exact pa | exact ⟨by decide, by decide⟩ | exact ⟨Nat.le_of_ble_eq_true rfl, allOne_of rfl⟩)
       | (apply Exists.intro; apply And.intro; · first | exact rfl | exact cL | exact ga)
       | (show ∃ r obs' nw, XTriple _ _ _ 23 [.ref (23, 1) 0, i64V (a.at_)] [(23, 1), (1, 1), (2, 1)] [.box (rsC (1, 1) (2, 1) N N (made)), .row 1 (rowB (T)) false, .row 1 (rowX (X)) false] _ r obs' nw ∧ _; apply Exists.intro; apply Exists.intro; apply Exists.intro; apply And.intro; · (refine ATriple.callN (cH) ?_ ?_ ?_ <;> rfl))
       | (show ∃ r obs' nw, XTriple _ _ _ 26 [.ref (23, 1) 0] [(23, 1), (1, 1), (2, 1)] [.box (rsC (1, 1) (2, 1) N N (made)), .row 1 (rowB (T)) false, .row 1 (rowX (X)) false] _ r obs' nw ∧ _; apply Exists.intro; apply Exists.intro; apply Exists.intro; apply And.intro; · (refine ATriple.callN (cM) ?_ ?_ ?_ <;> rfl))
       | (apply Exists.intro; apply Exists.intro; apply Exists.intro; apply And.intro; · first | (refine ATriple.callN (cG) ?_ ?_ ?_ <;> rfl) | (refine ATriple.callN (cN) ?_ ?_ ?_ <;> rfl) | (refine ATriple.callN (cP) ?_ ?_ ?_ <;> rfl) | (refine ATriple.callN (cT) ?_ ?_ ?_ <;> rfl))
       | fail
      all_goals (conv => whnf)
      refine VLoop.norm [0, 1, 5, 6, 7] [20, 22, 0, 1] ?_
      repeat' (conv => whnf); first
       | (apply And.intro; · first | exact Nat.le_of_ble_eq_true rfl | (show indep _ _ = true; kernel_rfl) | decide | exact pA | exact pure_B' _ | exact pure_X _)
       | (apply Exists.intro; apply And.intro; · first | exact rfl)
       | fail
      rw [hw]
      exact ih ⟨i + 1, taken, low, L, T, X, made⟩ ⟨hgo, (by first | exact hT2N | simp [hTN]), hj⟩ (by show l.length - (i + 1) < l.length - i; omega)
theorem plays_4m {E : Env} (hE : EOk cxP E) {K : Exit → St DV → Prop} (room : Int) (l : List Ac) (cap : Int) (N i : Nat) (taken low : Int) (L : List Pl) (T : List Bool) (X : List (Option (List En))) (made : Int) (hTN : T.length = N) (h : J cap taken low L T X made i) (ih : ∀ j : ZP, j.i ≤ l.length ∧ j.T.length = N ∧ J cap j.taken j.low j.L j.T j.X j.made j.i → l.length - j.i < l.length - i → VLoop cxP E b4 (stP room l cap N j.i j.taken j.low j.L j.T j.X j.made) K) (hgo : i < l.length) (h80 : l.length ≤ 80) {a : Ac} (ha : l[i]? = some a) (hb : lightL a.l = true) (hkd : a.k.tmod 5 = 4) (hm : a.k ≥ 128) : VLoop cxP E b4 (stP room l cap N i taken low L T X made) K := by
  have pA := pure_A l
  have lA : (l.map encA).length = l.length := by simp
  have hw : IntKind.i64.wrap ((i : Int) + 1) = ((i + 1 : Nat) : Int) := wrap64 (by omega) (by omega)
  have hXN : X.length = N := by rw [h.lenX, hTN]
  have ga : lget (l.map encA) ((i : Int).toNat) = some (encA a) := by rw [lget_eq, Int.toNat_natCast, List.getElem?_map, ha]; rfl
  have cL := lightL_ok a.l
  have pa := pure_E a.l
  rw [hb] at cL
  obtain ⟨hal, hae⟩ := light_E hb
  refine VLoop.unroll hE (mixedOf _) ?_
  have cMod := mod24_ok a.at_
  generalize a.at_ % 24 = A at cMod
  have hj := h.next
  by_cases hH : hasT T A = true
  case pos =>
    have cH := has14 (T) (X) (made) A (by have := hj.small; omega)
    rw [hH] at cH
    obtain ⟨⟨q0, p, q1, q2⟩, q3⟩ := hj.yes hH
    obtain ⟨q4, q5⟩ := hj.good _ p q1 q2
    have cG := getF hj.inv (cap := cap) (taken := taken) q0 q1 q2 q4 q5
    have hAl := (List.getElem?_eq_some_iff.1 q3).1
    have hAn : A.toNat < N := by have := hAl; (try simp only [List.length_set] at this); omega
    have cS := sameX (hj.same _ p q1 q2) q5 q4
    have pS := pure_E (p.l.getD [])
    have gX : lget (rowX (X)) (0 + (A).toNat) = some [lV ((X).getD (A).toNat none)] := by
      rw [lget_eq, Nat.zero_add, List.getElem?_map, List.getElem?_eq_getElem (by rw [hj.lenX]; exact hAl), List.getD_eq_getElem?_getD, List.getElem?_eq_getElem (by rw [hj.lenX]; exact hAl)]; rfl
    generalize hx : (X).getD (A).toNat none = x at cS gX
    generalize p.l.getD [] = g at cG cS pS
    have cN := lenF cap (taken) (low) (L)
    have cP := pagesF cap (taken) (low) (L)
    have cM := len14 (T) (X) (made) (by have := hj.small; omega)
    rw [← hj.tak] at cM
    have hpg : (((L).length / 8 : Nat) : Int) = made := by have := hj.pgs; omega
    rw [hpg] at cP
    simp only [hTN, hXN, List.length_set] at cH cM 
    have hxv : x = none ∨ ∃ z, x = some z := by cases x with | none => exact .inl rfl | some z => exact .inr ⟨z, rfl⟩
    rcases hxv with rfl | ⟨z, rfl⟩
    all_goals dsimp only [lV] at gX cS
    · skip
      repeat' (conv => whnf); first
       | (refine bcase_of (fun hr => ?_) (fun hr => ?_) <;> (try simp only [decide_eq_true_eq, decide_eq_false_iff_not, ge_iff_le, gt_iff_lt] at hr) <;> try (exfalso; first | omega | (simp at hr; done) | (simp [hkd] at hr; done) | (simp [hj] at hr; done) | (simp at hr; omega)))
       | (apply And.intro; · first | exact Nat.le_of_ble_eq_true rfl | (show indep _ _ = true; kernel_rfl) | decide | exact ⟨by omega, by omega⟩ | exact pa | exact pS | exact pure_E _ | exact ⟨by decide, by decide⟩ | exact ⟨Nat.le_of_ble_eq_true rfl, allOne_of rfl⟩)
       | (apply Exists.intro; apply And.intro; · first | exact rfl | exact cL | exact cMod | exact cS | exact ga | exact gX)
       | (show ∃ r obs' nw, XTriple _ _ _ 23 [.ref (23, 1) 0, i64V (A)] [(23, 1), (1, 1), (2, 1)] [.box (rsC (1, 1) (2, 1) N N (made)), .row 1 (rowB (T)) false, .row 1 (rowX (X)) false] _ r obs' nw ∧ _; apply Exists.intro; apply Exists.intro; apply Exists.intro; apply And.intro; · (refine ATriple.callN (cH) ?_ ?_ ?_ <;> rfl))
       | (show ∃ r obs' nw, XTriple _ _ _ 26 [.ref (23, 1) 0] [(23, 1), (1, 1), (2, 1)] [.box (rsC (1, 1) (2, 1) N N (made)), .row 1 (rowB (T)) false, .row 1 (rowX (X)) false] _ r obs' nw ∧ _; apply Exists.intro; apply Exists.intro; apply Exists.intro; apply And.intro; · (refine ATriple.callN (cM) ?_ ?_ ?_ <;> rfl))
       | (apply Exists.intro; apply Exists.intro; apply Exists.intro; apply And.intro; · first | (refine ATriple.callN (cG) ?_ ?_ ?_ <;> rfl) | (refine ATriple.callN (cN) ?_ ?_ ?_ <;> rfl) | (refine ATriple.callN (cP) ?_ ?_ ?_ <;> rfl))
       | fail
      all_goals (conv => whnf)
      refine VLoop.norm [0, 1, 5, 6, 7] [20, 22, 0, 1] ?_
      repeat' (conv => whnf); first
       | (apply And.intro; · first | exact Nat.le_of_ble_eq_true rfl | (show indep _ _ = true; kernel_rfl) | decide | exact pA | exact pure_B' _ | exact pure_X _)
       | (apply Exists.intro; apply And.intro; · first | exact rfl)
       | fail
      rw [hw]
      exact ih ⟨i + 1, taken, low, L, T, X, made⟩ ⟨hgo, (by first | exact hT2N | simp [hTN]), hj⟩ (by show l.length - (i + 1) < l.length - i; omega)
    · skip
      repeat' (conv => whnf); first
       | (refine bcase_of (fun hr => ?_) (fun hr => ?_) <;> (try simp only [decide_eq_true_eq, decide_eq_false_iff_not, ge_iff_le, gt_iff_lt] at hr) <;> try (exfalso; first | omega | (simp at hr; done) | (simp [hkd] at hr; done) | (simp [hj] at hr; done) | (simp at hr; omega)))
       | (apply And.intro; · first | exact Nat.le_of_ble_eq_true rfl | (show indep _ _ = true; kernel_rfl) | decide | exact ⟨by omega, by omega⟩ | exact pa | exact pS | exact pure_E _ | exact ⟨by decide, by decide⟩ | exact ⟨Nat.le_of_ble_eq_true rfl, allOne_of rfl⟩)
       | (apply Exists.intro; apply And.intro; · first | exact rfl | exact cL | exact cMod | exact cS | exact ga | exact gX)
       | (show ∃ r obs' nw, XTriple _ _ _ 23 [.ref (23, 1) 0, i64V (A)] [(23, 1), (1, 1), (2, 1)] [.box (rsC (1, 1) (2, 1) N N (made)), .row 1 (rowB (T)) false, .row 1 (rowX (X)) false] _ r obs' nw ∧ _; apply Exists.intro; apply Exists.intro; apply Exists.intro; apply And.intro; · (refine ATriple.callN (cH) ?_ ?_ ?_ <;> rfl))
       | (show ∃ r obs' nw, XTriple _ _ _ 26 [.ref (23, 1) 0] [(23, 1), (1, 1), (2, 1)] [.box (rsC (1, 1) (2, 1) N N (made)), .row 1 (rowB (T)) false, .row 1 (rowX (X)) false] _ r obs' nw ∧ _; apply Exists.intro; apply Exists.intro; apply Exists.intro; apply And.intro; · (refine ATriple.callN (cM) ?_ ?_ ?_ <;> rfl))
       | (apply Exists.intro; apply Exists.intro; apply Exists.intro; apply And.intro; · first | (refine ATriple.callN (cG) ?_ ?_ ?_ <;> rfl) | (refine ATriple.callN (cN) ?_ ?_ ?_ <;> rfl) | (refine ATriple.callN (cP) ?_ ?_ ?_ <;> rfl))
       | fail
      all_goals (conv => whnf)
      refine VLoop.norm [0, 1, 5, 6, 7] [20, 22, 0, 1] ?_
      repeat' (conv => whnf); first
       | (apply And.intro; · first | exact Nat.le_of_ble_eq_true rfl | (show indep _ _ = true; kernel_rfl) | decide | exact pA | exact pure_B' _ | exact pure_X _)
       | (apply Exists.intro; apply And.intro; · first | exact rfl)
       | fail
      rw [hw]
      exact ih ⟨i + 1, taken, low, L, T, X, made⟩ ⟨hgo, (by first | exact hT2N | simp [hTN]), hj⟩ (by show l.length - (i + 1) < l.length - i; omega)
  case neg =>
    have cH := has14 (T) (X) (made) A (by have := hj.small; omega)
    have hH : hasT (T) A = false := by simpa using hH
    rw [hH] at cH
    have cG := getN hj.inv (cap := cap) (taken := taken) (hj.no hH)
    have cN := lenF cap (taken) (low) (L)
    have cP := pagesF cap (taken) (low) (L)
    have cM := len14 (T) (X) (made) (by have := hj.small; omega)
    rw [← hj.tak] at cM
    have hpg : (((L).length / 8 : Nat) : Int) = made := by have := hj.pgs; omega
    rw [hpg] at cP
    simp only [hTN, hXN, List.length_set] at cH cM 
    repeat' (conv => whnf); first
     | (refine bcase_of (fun hr => ?_) (fun hr => ?_) <;> (try simp only [decide_eq_true_eq, decide_eq_false_iff_not, ge_iff_le, gt_iff_lt] at hr) <;> try (exfalso; first | omega | (simp at hr; done) | (simp [hkd] at hr; done) | (simp [hj] at hr; done) | (simp at hr; omega)))
     | (apply And.intro; · first | exact Nat.le_of_ble_eq_true rfl | (show indep _ _ = true; kernel_rfl) | decide | exact ⟨by omega, by omega⟩ | exact pa | exact ⟨by decide, by decide⟩ | exact ⟨Nat.le_of_ble_eq_true rfl, allOne_of rfl⟩)
     | (apply Exists.intro; apply And.intro; · first | exact rfl | exact cL | exact cMod | exact ga)
     | (show ∃ r obs' nw, XTriple _ _ _ 23 [.ref (23, 1) 0, i64V (A)] [(23, 1), (1, 1), (2, 1)] [.box (rsC (1, 1) (2, 1) N N (made)), .row 1 (rowB (T)) false, .row 1 (rowX (X)) false] _ r obs' nw ∧ _; apply Exists.intro; apply Exists.intro; apply Exists.intro; apply And.intro; · (refine ATriple.callN (cH) ?_ ?_ ?_ <;> rfl))
     | (show ∃ r obs' nw, XTriple _ _ _ 26 [.ref (23, 1) 0] [(23, 1), (1, 1), (2, 1)] [.box (rsC (1, 1) (2, 1) N N (made)), .row 1 (rowB (T)) false, .row 1 (rowX (X)) false] _ r obs' nw ∧ _; apply Exists.intro; apply Exists.intro; apply Exists.intro; apply And.intro; · (refine ATriple.callN (cM) ?_ ?_ ?_ <;> rfl))
     | (apply Exists.intro; apply Exists.intro; apply Exists.intro; apply And.intro; · first | (refine ATriple.callN (cG) ?_ ?_ ?_ <;> rfl) | (refine ATriple.callN (cN) ?_ ?_ ?_ <;> rfl) | (refine ATriple.callN (cP) ?_ ?_ ?_ <;> rfl))
     | fail
    all_goals (conv => whnf)
    refine VLoop.norm [0, 1, 5, 6, 7] [20, 22, 0, 1] ?_
    repeat' (conv => whnf); first
     | (apply And.intro; · first | exact Nat.le_of_ble_eq_true rfl | (show indep _ _ = true; kernel_rfl) | decide | exact pA | exact pure_B' _ | exact pure_X _)
     | (apply Exists.intro; apply And.intro; · first | exact rfl)
     | fail
    rw [hw]
    exact ih ⟨i + 1, taken, low, L, T, X, made⟩ ⟨hgo, (by first | exact hT2N | simp [hTN]), hj⟩ (by show l.length - (i + 1) < l.length - i; omega)
theorem plays_4n {E : Env} (hE : EOk cxP E) {K : Exit → St DV → Prop} (room : Int) (l : List Ac) (cap : Int) (N i : Nat) (taken low : Int) (L : List Pl) (T : List Bool) (X : List (Option (List En))) (made : Int) (hTN : T.length = N) (h : J cap taken low L T X made i) (ih : ∀ j : ZP, j.i ≤ l.length ∧ j.T.length = N ∧ J cap j.taken j.low j.L j.T j.X j.made j.i → l.length - j.i < l.length - i → VLoop cxP E b4 (stP room l cap N j.i j.taken j.low j.L j.T j.X j.made) K) (hgo : i < l.length) (h80 : l.length ≤ 80) {a : Ac} (ha : l[i]? = some a) (hb : lightL a.l = true) (hkd : a.k.tmod 5 = 4) (hm : ¬ a.k ≥ 128) : VLoop cxP E b4 (stP room l cap N i taken low L T X made) K := by
  have pA := pure_A l
  have lA : (l.map encA).length = l.length := by simp
  have hw : IntKind.i64.wrap ((i : Int) + 1) = ((i + 1 : Nat) : Int) := wrap64 (by omega) (by omega)
  have hXN : X.length = N := by rw [h.lenX, hTN]
  have ga : lget (l.map encA) ((i : Int).toNat) = some (encA a) := by rw [lget_eq, Int.toNat_natCast, List.getElem?_map, ha]; rfl
  have cL := lightL_ok a.l
  have pa := pure_E a.l
  rw [hb] at cL
  obtain ⟨hal, hae⟩ := light_E hb
  refine VLoop.unroll hE (mixedOf _) ?_
  have hj := h.next
  by_cases hH : hasT T a.at_ = true
  case pos =>
    have cH := has14 (T) (X) (made) a.at_ (by have := hj.small; omega)
    rw [hH] at cH
    obtain ⟨⟨q0, p, q1, q2⟩, q3⟩ := hj.yes hH
    obtain ⟨q4, q5⟩ := hj.good _ p q1 q2
    have cG := getF hj.inv (cap := cap) (taken := taken) q0 q1 q2 q4 q5
    have hAl := (List.getElem?_eq_some_iff.1 q3).1
    have hAn : a.at_.toNat < N := by have := hAl; (try simp only [List.length_set] at this); omega
    have cS := sameX (hj.same _ p q1 q2) q5 q4
    have pS := pure_E (p.l.getD [])
    have gX : lget (rowX (X)) (0 + (a.at_).toNat) = some [lV ((X).getD (a.at_).toNat none)] := by
      rw [lget_eq, Nat.zero_add, List.getElem?_map, List.getElem?_eq_getElem (by rw [hj.lenX]; exact hAl), List.getD_eq_getElem?_getD, List.getElem?_eq_getElem (by rw [hj.lenX]; exact hAl)]; rfl
    generalize hx : (X).getD (a.at_).toNat none = x at cS gX
    generalize p.l.getD [] = g at cG cS pS
    have cN := lenF cap (taken) (low) (L)
    have cP := pagesF cap (taken) (low) (L)
    have cM := len14 (T) (X) (made) (by have := hj.small; omega)
    rw [← hj.tak] at cM
    have hpg : (((L).length / 8 : Nat) : Int) = made := by have := hj.pgs; omega
    rw [hpg] at cP
    simp only [hTN, hXN, List.length_set] at cH cM 
    have hxv : x = none ∨ ∃ z, x = some z := by cases x with | none => exact .inl rfl | some z => exact .inr ⟨z, rfl⟩
    rcases hxv with rfl | ⟨z, rfl⟩
    all_goals dsimp only [lV] at gX cS
    · skip
      repeat' (conv => whnf); first
       | (refine bcase_of (fun hr => ?_) (fun hr => ?_) <;> (try simp only [decide_eq_true_eq, decide_eq_false_iff_not, ge_iff_le, gt_iff_lt] at hr) <;> try (exfalso; first | omega | (simp at hr; done) | (simp [hkd] at hr; done) | (simp [hj] at hr; done) | (simp at hr; omega)))
       | (apply And.intro; · first | exact Nat.le_of_ble_eq_true rfl | (show indep _ _ = true; kernel_rfl) | decide | exact ⟨by omega, by omega⟩ | exact pa | exact pS | exact pure_E _ | exact ⟨by decide, by decide⟩ | exact ⟨Nat.le_of_ble_eq_true rfl, allOne_of rfl⟩)
       | (apply Exists.intro; apply And.intro; · first | exact rfl | exact cL | exact cS | exact ga | exact gX)
       | (show ∃ r obs' nw, XTriple _ _ _ 23 [.ref (23, 1) 0, i64V (a.at_)] [(23, 1), (1, 1), (2, 1)] [.box (rsC (1, 1) (2, 1) N N (made)), .row 1 (rowB (T)) false, .row 1 (rowX (X)) false] _ r obs' nw ∧ _; apply Exists.intro; apply Exists.intro; apply Exists.intro; apply And.intro; · (refine ATriple.callN (cH) ?_ ?_ ?_ <;> rfl))
       | (show ∃ r obs' nw, XTriple _ _ _ 26 [.ref (23, 1) 0] [(23, 1), (1, 1), (2, 1)] [.box (rsC (1, 1) (2, 1) N N (made)), .row 1 (rowB (T)) false, .row 1 (rowX (X)) false] _ r obs' nw ∧ _; apply Exists.intro; apply Exists.intro; apply Exists.intro; apply And.intro; · (refine ATriple.callN (cM) ?_ ?_ ?_ <;> rfl))
       | (apply Exists.intro; apply Exists.intro; apply Exists.intro; apply And.intro; · first | (refine ATriple.callN (cG) ?_ ?_ ?_ <;> rfl) | (refine ATriple.callN (cN) ?_ ?_ ?_ <;> rfl) | (refine ATriple.callN (cP) ?_ ?_ ?_ <;> rfl))
       | fail
      all_goals (conv => whnf)
      refine VLoop.norm [0, 1, 5, 6, 7] [20, 22, 0, 1] ?_
      repeat' (conv => whnf); first
       | (apply And.intro; · first | exact Nat.le_of_ble_eq_true rfl | (show indep _ _ = true; kernel_rfl) | decide | exact pA | exact pure_B' _ | exact pure_X _)
       | (apply Exists.intro; apply And.intro; · first | exact rfl)
       | fail
      rw [hw]
      exact ih ⟨i + 1, taken, low, L, T, X, made⟩ ⟨hgo, (by first | exact hT2N | simp [hTN]), hj⟩ (by show l.length - (i + 1) < l.length - i; omega)
    · skip
      repeat' (conv => whnf); first
       | (refine bcase_of (fun hr => ?_) (fun hr => ?_) <;> (try simp only [decide_eq_true_eq, decide_eq_false_iff_not, ge_iff_le, gt_iff_lt] at hr) <;> try (exfalso; first | omega | (simp at hr; done) | (simp [hkd] at hr; done) | (simp [hj] at hr; done) | (simp at hr; omega)))
       | (apply And.intro; · first | exact Nat.le_of_ble_eq_true rfl | (show indep _ _ = true; kernel_rfl) | decide | exact ⟨by omega, by omega⟩ | exact pa | exact pS | exact pure_E _ | exact ⟨by decide, by decide⟩ | exact ⟨Nat.le_of_ble_eq_true rfl, allOne_of rfl⟩)
       | (apply Exists.intro; apply And.intro; · first | exact rfl | exact cL | exact cS | exact ga | exact gX)
       | (show ∃ r obs' nw, XTriple _ _ _ 23 [.ref (23, 1) 0, i64V (a.at_)] [(23, 1), (1, 1), (2, 1)] [.box (rsC (1, 1) (2, 1) N N (made)), .row 1 (rowB (T)) false, .row 1 (rowX (X)) false] _ r obs' nw ∧ _; apply Exists.intro; apply Exists.intro; apply Exists.intro; apply And.intro; · (refine ATriple.callN (cH) ?_ ?_ ?_ <;> rfl))
       | (show ∃ r obs' nw, XTriple _ _ _ 26 [.ref (23, 1) 0] [(23, 1), (1, 1), (2, 1)] [.box (rsC (1, 1) (2, 1) N N (made)), .row 1 (rowB (T)) false, .row 1 (rowX (X)) false] _ r obs' nw ∧ _; apply Exists.intro; apply Exists.intro; apply Exists.intro; apply And.intro; · (refine ATriple.callN (cM) ?_ ?_ ?_ <;> rfl))
       | (apply Exists.intro; apply Exists.intro; apply Exists.intro; apply And.intro; · first | (refine ATriple.callN (cG) ?_ ?_ ?_ <;> rfl) | (refine ATriple.callN (cN) ?_ ?_ ?_ <;> rfl) | (refine ATriple.callN (cP) ?_ ?_ ?_ <;> rfl))
       | fail
      all_goals (conv => whnf)
      refine VLoop.norm [0, 1, 5, 6, 7] [20, 22, 0, 1] ?_
      repeat' (conv => whnf); first
       | (apply And.intro; · first | exact Nat.le_of_ble_eq_true rfl | (show indep _ _ = true; kernel_rfl) | decide | exact pA | exact pure_B' _ | exact pure_X _)
       | (apply Exists.intro; apply And.intro; · first | exact rfl)
       | fail
      rw [hw]
      exact ih ⟨i + 1, taken, low, L, T, X, made⟩ ⟨hgo, (by first | exact hT2N | simp [hTN]), hj⟩ (by show l.length - (i + 1) < l.length - i; omega)
  case neg =>
    have cH := has14 (T) (X) (made) a.at_ (by have := hj.small; omega)
    have hH : hasT (T) a.at_ = false := by simpa using hH
    rw [hH] at cH
    have cG := getN hj.inv (cap := cap) (taken := taken) (hj.no hH)
    have cN := lenF cap (taken) (low) (L)
    have cP := pagesF cap (taken) (low) (L)
    have cM := len14 (T) (X) (made) (by have := hj.small; omega)
    rw [← hj.tak] at cM
    have hpg : (((L).length / 8 : Nat) : Int) = made := by have := hj.pgs; omega
    rw [hpg] at cP
    simp only [hTN, hXN, List.length_set] at cH cM 
    repeat' (conv => whnf); first
     | (refine bcase_of (fun hr => ?_) (fun hr => ?_) <;> (try simp only [decide_eq_true_eq, decide_eq_false_iff_not, ge_iff_le, gt_iff_lt] at hr) <;> try (exfalso; first | omega | (simp at hr; done) | (simp [hkd] at hr; done) | (simp [hj] at hr; done) | (simp at hr; omega)))
     | (apply And.intro; · first | exact Nat.le_of_ble_eq_true rfl | (show indep _ _ = true; kernel_rfl) | decide | exact ⟨by omega, by omega⟩ | exact pa | exact ⟨by decide, by decide⟩ | exact ⟨Nat.le_of_ble_eq_true rfl, allOne_of rfl⟩)
     | (apply Exists.intro; apply And.intro; · first | exact rfl | exact cL | exact ga)
     | (show ∃ r obs' nw, XTriple _ _ _ 23 [.ref (23, 1) 0, i64V (a.at_)] [(23, 1), (1, 1), (2, 1)] [.box (rsC (1, 1) (2, 1) N N (made)), .row 1 (rowB (T)) false, .row 1 (rowX (X)) false] _ r obs' nw ∧ _; apply Exists.intro; apply Exists.intro; apply Exists.intro; apply And.intro; · (refine ATriple.callN (cH) ?_ ?_ ?_ <;> rfl))
     | (show ∃ r obs' nw, XTriple _ _ _ 26 [.ref (23, 1) 0] [(23, 1), (1, 1), (2, 1)] [.box (rsC (1, 1) (2, 1) N N (made)), .row 1 (rowB (T)) false, .row 1 (rowX (X)) false] _ r obs' nw ∧ _; apply Exists.intro; apply Exists.intro; apply Exists.intro; apply And.intro; · (refine ATriple.callN (cM) ?_ ?_ ?_ <;> rfl))
     | (apply Exists.intro; apply Exists.intro; apply Exists.intro; apply And.intro; · first | (refine ATriple.callN (cG) ?_ ?_ ?_ <;> rfl) | (refine ATriple.callN (cN) ?_ ?_ ?_ <;> rfl) | (refine ATriple.callN (cP) ?_ ?_ ?_ <;> rfl))
     | fail
    all_goals (conv => whnf)
    refine VLoop.norm [0, 1, 5, 6, 7] [20, 22, 0, 1] ?_
    repeat' (conv => whnf); first
     | (apply And.intro; · first | exact Nat.le_of_ble_eq_true rfl | (show indep _ _ = true; kernel_rfl) | decide | exact pA | exact pure_B' _ | exact pure_X _)
     | (apply Exists.intro; apply And.intro; · first | exact rfl)
     | fail
    rw [hw]
    exact ih ⟨i + 1, taken, low, L, T, X, made⟩ ⟨hgo, (by first | exact hT2N | simp [hTN]), hj⟩ (by show l.length - (i + 1) < l.length - i; omega)
end Go.Proofs.Ytbppemcdphgknaa
