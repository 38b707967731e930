/- Chapter 14: the slab: Take. -/
import Derived.Test.YtbppemcdphgknaaSlG
set_option linter.unusedVariables false
set_option linter.unusedSimpArgs false
namespace Go.Proofs.Ytbppemcdphgknaa
open Go Go.Vm
set_option maxRecDepth 100000
set_option maxHeartbeats 40000000
set_option linter.unusedSimpArgs false
set_option linter.unusedVariables false
/-- What has a place. -/
def Tk (ps : List (List Pl)) (i : Int) : Prop := ∃ g p, ps[i.toNat / 8]? = some g ∧ g[i.toNat % 8]? = some p ∧ p.t = true
def stTake (cap taken low : Int) (ps : List (List Pl)) (i : Int) : St DV := mkStX 73 1 [(0, .ref (0, 0) 0), (4, i64V i)] [(73, .prow (ps.map pgD))] [some (.box (slC (74, 1) cap taken low ps))]
def newPg : List Pl := ⟨true, none⟩ :: List.replicate 7 ⟨false, none⟩
theorem zero_ok : okCs [.bool false, .nils, .bool false, .nils, .bool false, .nils, .bool false, .nils, .bool false, .nils, .bool false, .nils, .bool false, .nils, .bool false, .nils] := by simp [okCs, okC]
theorem take_full (cap taken low : Int) (ps : List (List Pl)) (h : cap ≤ taken) : ATriple Try.prog gv R0 13 [.ref (0, 0) 0] [.abs (slD cap taken low ps)] (.tup [i64V 0, .bool false]) [.abs (slD cap taken low ps)] (none) := by
  refine ATriple.of_bodyW (C := cx3) Try.func13 rfl (by kernel_rfl) (mixedOf _) rfl (by simp [okA, okC, okN, pure_E, pure_nil]) (by simp [okOb, okC, okN, pure_E]) (by simp [okG, okA, okC, okN, pure_E, pure_nil]) (by simp [okOb, okC, okN, pure_E]) (fun o ho => by cases ho) 1 [.opn (0, 0) [73]] fun E hE => ?_
  repeat' (conv => whnf); first
   | (refine bcase_of (fun hr => ?_) (fun hr => ?_) <;> try (exfalso; simp at hr; omega))
   | (apply And.intro; · first | exact Nat.le_of_ble_eq_true rfl | (show indep _ _ = true; kernel_rfl) | decide | exact ⟨by decide, by decide⟩ | exact ⟨Nat.le_of_ble_eq_true rfl, allOne_of rfl⟩ | exact ⟨rfl, rfl⟩)
   | (apply Exists.intro; apply And.intro; · first | exact rfl)
   | fail
  all_goals refine ⟨[.shut (0, 0) (slD (cap) (taken) (low) (ps))], ?_⟩
  all_goals (conv => whnf)
  all_goals refine ⟨shut_sl (74, 1) (cap) (taken) (low) _ (rfl) (by simp), ?_⟩
  all_goals (conv => whnf)
  all_goals exact ⟨rfl, rfl⟩
theorem take_old (cap taken low : Int) (ps : List (List Pl)) (hl : ps.length ≤ 900) (hl0 : 0 ≤ low) (hc : taken < cap) (k : Int) (hk : low ≤ k) (hT : ∀ j, low ≤ j → j < k → Tk ps j) {G : List Pl} (hG : ps[k.toNat / 8]? = some G) (hG8 : G.length = 8) (hF : Fr ps k) : ATriple Try.prog gv R0 13 [.ref (0, 0) 0] [.abs (slD cap taken low ps)] (.tup [i64V k, .bool true]) [.abs (slD cap (IntKind.i64.wrap (taken + 1)) (IntKind.i64.wrap (k + 1)) (ps.set (k.toNat / 8) (G.set (k.toNat % 8) ⟨true, none⟩)))] (none) := by
  have hl : ps.length ≤ 1000 := by omega
  have hj := (List.getElem?_eq_some_iff.1 hG).1
  have hs : lset (ps.map pgD) (k.toNat / 8) (DV.mk (lput (pgC G) (k.toNat % 8 * 2) [.bool true, lV none]) []) = (ps.set (k.toNat / 8) (G.set (k.toNat % 8) ⟨true, none⟩)).map pgD := by rw [pgC_lay (by omega) ⟨true, none⟩, pages_set]
  refine ATriple.of_bodyW (C := cx3) Try.func13 rfl (by kernel_rfl) (mixedOf _) rfl (by simp [okA, okC, okN, pure_E, pure_nil]) (by simp [okOb, okC, okN, pure_E]) (by simp [okG, okA, okC, okN, pure_E, pure_nil]) (by simp [okOb, okC, okN, pure_E]) (fun o ho => by cases ho) 1 [.opn (0, 0) [73]] fun E hE => ?_
  repeat' (conv => whnf); first
   | (refine bcase_of (fun hr => ?_) (fun hr => ?_) <;> try (exfalso; simp at hr; omega))
   | (apply And.intro; · first | exact Nat.le_of_ble_eq_true rfl | (show indep _ _ = true; kernel_rfl) | decide | exact ⟨by decide, by decide⟩ | exact ⟨Nat.le_of_ble_eq_true rfl, allOne_of rfl⟩ | exact ⟨rfl, rfl⟩)
   | (apply Exists.intro; apply And.intro; · first | exact rfl)
   | fail
  all_goals (conv => whnf)
  refine VLoop.norm [0, 4] [73] ?_
  conv => whnf
  refine VLoop.inv (fun i : Int => stTake cap taken low ps i) (fun i => low ≤ i ∧ i ≤ k) (fun i => (k - i).toNat) low ⟨Int.le_refl _, hk⟩ rfl ?_
  intro i hi ih
  by_cases hik : i < k
  case pos =>
    obtain ⟨g, p, hg, hp, ht⟩ := hT i hi.1 hik
    have hw : IntKind.i64.wrap (i + 1) = i + 1 := wrap64 (by omega) (by omega)
    refine VLoop.unroll hE (mixedOf _) ?_
    repeat' (conv => whnf); first
     | (refine bcase_of (fun hr => ?_) (fun hr => ?_) <;> try (exfalso; simp at hr; done))
     | (apply And.intro; · first | exact Nat.le_of_ble_eq_true rfl | (show indep _ _ = true; kernel_rfl) | decide | exact ⟨by decide, by decide⟩ | exact ⟨Nat.le_of_ble_eq_true rfl, allOne_of rfl⟩)
     | (apply Exists.intro; apply And.intro; · first | exact rfl)
     | (apply Exists.intro; apply Exists.intro; apply Exists.intro; apply And.intro; · first | (apply ATriple.callN (at_some cap taken low ps hl i (by omega) hg hp ht) <;> rfl))
     | fail
    all_goals (conv => whnf)
    refine VLoop.norm [0, 4] [73] ?_
    conv => whnf
    exact ih (IntKind.i64.wrap (i + 1)) ⟨by omega, by omega⟩ (by omega)
  case neg =>
    obtain rfl : i = k := by omega
    clear ih
    have hd := div8 (i := i) (by omega) (by omega)
    have hm := mod8 (i := i) (by omega)
    refine VLoop.unroll hE (mixedOf _) ?_
    repeat' (conv => whnf); first
     | (refine bcase_of (fun hr => ?_) (fun hr => ?_) <;> try (exfalso; simp at hr; rw [hd] at hr; omega))
     | (apply And.intro; · first | exact Nat.le_of_ble_eq_true rfl | (show indep _ _ = true; kernel_rfl) | decide | exact ⟨by decide, by decide⟩ | exact ⟨Nat.le_of_ble_eq_true rfl, allOne_of rfl⟩ | exact ⟨by rw [hd]; omega, by rw [hd]; omega⟩ | exact ⟨by rw [hm]; omega, by rw [hm]; omega⟩ | (rw [hd, Int.toNat_natCast, Nat.zero_add, List.length_map]; exact hj) | exact ⟨by rw [pgC_length, hm]; show 0 + ((i.toNat % 8 : Nat) : Int).toNat * 2 + 2 ≤ G.length * 2; omega, trivial, trivial⟩)
     | (apply Exists.intro; apply And.intro; · first | exact rfl | (rw [hd, Nat.zero_add, Int.toNat_natCast]; exact pages_get hG))
     | (apply Exists.intro; apply Exists.intro; apply Exists.intro; apply And.intro; · first | (apply ATriple.callN (at_none cap taken low ps hl i hF) <;> rfl))
     | fail
    refine ⟨[.shut (0, 0) (slD cap (IntKind.i64.wrap (taken + 1)) (IntKind.i64.wrap (i + 1)) (ps.set (i.toNat / 8) (G.set (i.toNat % 8) ⟨true, none⟩)))], ?_⟩
    conv => whnf
    refine ⟨shut_sl (74, 1) _ _ _ _ (by rw [hd, hm, Nat.zero_add, Nat.zero_add, Int.toNat_natCast, Int.toNat_natCast]; exact hs) (by simp), ?_⟩
    conv => whnf
    exact ⟨rfl, rfl⟩
theorem wide_nat (n : Nat) : ((n : Int).toNat) = n := Int.toNat_natCast n
theorem take_new (cap taken low : Int) (ps : List (List Pl)) (hl : ps.length ≤ 900) (hl0 : 0 ≤ low) (hc : taken < cap) (k : Int) (hk : low ≤ k) (hT : ∀ j, low ≤ j → j < k → Tk ps j) (hk8 : k = ps.length * 8) (hF : Fr ps k) : ATriple Try.prog gv R0 13 [.ref (0, 0) 0] [.abs (slD cap taken low ps)] (.tup [i64V k, .bool true]) [.abs (slD cap (IntKind.i64.wrap (taken + 1)) (IntKind.i64.wrap (k + 1)) (ps ++ [newPg]))] (none) := by
  have hl : ps.length ≤ 1000 := by omega
  refine ATriple.of_bodyW (C := cx3) Try.func13 rfl (by kernel_rfl) (mixedOf _) rfl (by simp [okA, okC, okN, pure_E, pure_nil]) (by simp [okOb, okC, okN, pure_E]) (by simp [okG, okA, okC, okN, pure_E, pure_nil]) (by simp [okOb, okC, okN, pure_E]) (fun o ho => by cases ho) 1 [.opn (0, 0) [73]] fun E hE => ?_
  repeat' (conv => whnf); first
   | (refine bcase_of (fun hr => ?_) (fun hr => ?_) <;> try (exfalso; simp at hr; omega))
   | (apply And.intro; · first | exact Nat.le_of_ble_eq_true rfl | (show indep _ _ = true; kernel_rfl) | decide | exact ⟨by decide, by decide⟩ | exact ⟨Nat.le_of_ble_eq_true rfl, allOne_of rfl⟩ | exact ⟨rfl, rfl⟩)
   | (apply Exists.intro; apply And.intro; · first | exact rfl)
   | fail
  all_goals (conv => whnf)
  refine VLoop.norm [0, 4] [73] ?_
  conv => whnf
  refine VLoop.inv (fun i : Int => stTake cap taken low ps i) (fun i => low ≤ i ∧ i ≤ k) (fun i => (k - i).toNat) low ⟨Int.le_refl _, hk⟩ rfl ?_
  intro i hi ih
  by_cases hik : i < k
  case pos =>
    obtain ⟨g, p, hg, hp, ht⟩ := hT i hi.1 hik
    have hw : IntKind.i64.wrap (i + 1) = i + 1 := wrap64 (by omega) (by omega)
    refine VLoop.unroll hE (mixedOf _) ?_
    repeat' (conv => whnf); first
     | (refine bcase_of (fun hr => ?_) (fun hr => ?_) <;> try (exfalso; simp at hr; done))
     | (apply And.intro; · first | exact Nat.le_of_ble_eq_true rfl | (show indep _ _ = true; kernel_rfl) | decide | exact ⟨by decide, by decide⟩ | exact ⟨Nat.le_of_ble_eq_true rfl, allOne_of rfl⟩)
     | (apply Exists.intro; apply And.intro; · first | exact rfl)
     | (apply Exists.intro; apply Exists.intro; apply Exists.intro; apply And.intro; · first | (apply ATriple.callN (at_some cap taken low ps hl i (by omega) hg hp ht) <;> rfl))
     | fail
    all_goals (conv => whnf)
    refine VLoop.norm [0, 4] [73] ?_
    conv => whnf
    exact ih (IntKind.i64.wrap (i + 1)) ⟨by omega, by omega⟩ (by omega)
  case neg =>
    obtain rfl : i = k := by omega
    clear ih
    have hd := div8 (i := i) (by omega) (by omega)
    have hm := mod8 (i := i) (by omega)
    refine VLoop.unroll hE (mixedOf _) ?_
    have hq : i.toNat / 8 = ps.length := by omega
    have hr0 : i.toNat % 8 = 0 := by omega
    rw [hq] at hd
    rw [hr0] at hm
    have hlast : lget (ps.map pgD ++ [DV.mk [.bool false, .nils, .bool false, .nils, .bool false, .nils, .bool false, .nils, .bool false, .nils, .bool false, .nils, .bool false, .nils, .bool false, .nils] []]) ps.length = some (DV.mk [.bool false, .nils, .bool false, .nils, .bool false, .nils, .bool false, .nils, .bool false, .nils, .bool false, .nils, .bool false, .nils, .bool false, .nils] []) := by rw [lget_eq, List.getElem?_append_right (by simp)]; simp
    have hs : lset (ps.map pgD ++ [DV.mk [.bool false, .nils, .bool false, .nils, .bool false, .nils, .bool false, .nils, .bool false, .nils, .bool false, .nils, .bool false, .nils, .bool false, .nils] []]) ps.length (pgD newPg) = (ps ++ [newPg]).map pgD := by
      rw [lset_eq, List.set_append_right _ _ (by simp)]; simp
    repeat' (conv => whnf); first
     | (refine bcase_of (fun hr => ?_) (fun hr => ?_) <;> try (exfalso; simp at hr; rw [hd] at hr; omega))
     | (apply And.intro; · first | exact Nat.le_of_ble_eq_true rfl | (show indep _ _ = true; kernel_rfl) | decide | exact ⟨by decide, by decide⟩ | exact ⟨Nat.le_of_ble_eq_true rfl, allOne_of rfl⟩ | exact zero_ok | exact ⟨by simp, by show (ps.length + 1) * 8 ≤ roomBound; unfold roomBound; omega, by unfold roomBound; omega⟩ | exact ⟨by rw [hd]; omega, by rw [hd]; omega⟩ | exact ⟨by rw [hm]; omega, by rw [hm]; omega⟩ | (rw [hd, Int.toNat_natCast, Nat.zero_add]; simp) | exact ⟨by rw [hm]; decide, trivial, trivial⟩)
     | (apply Exists.intro; apply And.intro; · first | exact rfl | (rw [hd, Nat.zero_add, Int.toNat_natCast]; exact hlast))
     | (apply Exists.intro; apply Exists.intro; apply Exists.intro; apply And.intro; · first | (apply ATriple.callN (at_none cap taken low ps hl i hF) <;> rfl))
     | fail
    refine ⟨[.shut (0, 0) (slD cap (IntKind.i64.wrap (taken + 1)) (IntKind.i64.wrap (i + 1)) (ps ++ [newPg]))], ?_⟩
    conv => whnf
    refine ⟨shut_sl (45, 1) _ _ _ _ (by rw [hd, hm, Nat.zero_add, Int.toNat_natCast]; exact hs) (by simp), ?_⟩
    conv => whnf
    exact ⟨rfl, rfl⟩
end Go.Proofs.Ytbppemcdphgknaa
