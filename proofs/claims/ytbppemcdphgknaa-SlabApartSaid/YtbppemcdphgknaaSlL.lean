/- Chapter 14: SlabLeast. -/
import Derived.Test.YtbppemcdphgknaaSlK
set_option linter.unusedVariables false
set_option linter.unusedSimpArgs false
namespace Go.Proofs.Ytbppemcdphgknaa
open Go Go.Vm
set_option maxRecDepth 100000
set_option maxHeartbeats 40000000
set_option linter.unusedSimpArgs false
set_option linter.unusedVariables false
abbrev u8V (n : Int) : V := .int .u8 n
abbrev bkV (l : List Bool) : V := .lst 1 (l.map fun x => [.bool x])
theorem pure_B (l : List Bool) : PureEs (l.map fun x => [.bool x]) := fun e he v hv => by
  obtain ⟨x, _, rfl⟩ := List.mem_map.1 he
  obtain rfl : v = .bool x := by simpa using hv
  exact .bool _
abbrev nV (l : List Nat) : List (List V) := l.map fun (x : Nat) => [i64V (x : Int)]
theorem pure_N (l : List Nat) : PureEs (nV l) := fun e he v hv => by
  obtain ⟨x, _, rfl⟩ := List.mem_map.1 he
  obtain rfl : v = i64V (x : Int) := by simpa using hv
  exact .int _ _
theorem capOf_small {r : Int} (h : 0 ≤ r) (h' : r ≤ 2000) : capOf r = r := by
  unfold capOf
  have : ¬ (2000 < r) := by omega
  simp only [if_neg this]
  split <;> omega
theorem inv1 {m : Nat} (hm : m ≤ 2000) : Inv (m : Int) (LF (fun j => decide (j < m)) (up8 m)) :=
  ⟨by rw [LF_len]; exact up8_8 m, by rw [LF_len]; have := up8_b (i := m) (by omega); omega, by omega, by rw [(LF_next m).2]; omega⟩
theorem take1 (cap : Int) (m : Nat) (hc : (m : Int) < cap) (hm : m ≤ 2000) : ATriple Try.prog gv R0 13 [.ref (0, 0) 0] [.abs (slF cap m m (LF (fun j => decide (j < m)) (up8 m)))] (.tup [i64V m, .bool true]) [.abs (slF cap ((m + 1 : Nat) : Int) ((m + 1 : Nat) : Int) (LF (fun j => decide (j < m + 1)) (up8 (m + 1))))] none := by
  have := takeF (inv1 hm) hc
  rw [(LF_next m).2, (LF_next m).1, show IntKind.i64.wrap ((m : Int) + 1) = ((m + 1 : Nat) : Int) from wrap64 (by omega) (by omega)] at this
  exact this
/-- Taken are the first k, but for those that are free. -/
def g2 (bk : Nat → Bool) (k i : Nat) : Nat → Bool := fun j => decide (j < k) && !(decide (j < i) && bk j)
def g3 (F : List Nat) (k i : Nat) : Nat → Bool := fun j => decide (j < k) && !((F.drop i).contains j)
theorem invG {low : Int} {f : Nat → Bool} {k : Nat} (hk : k ≤ 2000) (h0 : 0 ≤ low) (h1 : low ≤ ff (LF f (up8 k))) : Inv low (LF f (up8 k)) :=
  ⟨by rw [LF_len]; exact up8_8 k, by rw [LF_len]; have := up8_b (i := k) (by omega); omega, h0, h1⟩
theorem up8_ge (k : Nat) : k ≤ up8 k := by unfold up8; omega
theorem free1 (room : Int) (bk : Nat → Bool) (k i : Nat) (low : Int) (hk : k ≤ 255) (h : Inv low (LF (g2 bk k i) (up8 k))) (hi : i < k) (hb : bk i = true) :
    ATriple Try.prog gv R0 14 [.ref (0, 0) 0, i64V i] [.abs (slF room ((k - (fr bk i).length : Nat) : Int) low (LF (g2 bk k i) (up8 k)))] (.bool true) [.abs (slF room ((k - (fr bk (i + 1)).length : Nat) : Int) (if (i : Int) < low then i else low) (LF (g2 bk k (i + 1)) (up8 k)))] none ∧
    Inv (if (i : Int) < low then i else low) (LF (g2 bk k (i + 1)) (up8 k)) := by
  have hu := up8_ge k
  have hH : Has (LF (g2 bk k i) (up8 k)) i := ⟨by omega, _, by rw [Int.toNat_natCast]; exact LF_get _ _ i (by omega), by simp [g2, hi]⟩
  have hs : (LF (g2 bk k i) (up8 k)).set (i : Int).toNat ⟨false, none⟩ = LF (g2 bk k (i + 1)) (up8 k) := by
    rw [Int.toNat_natCast, LF_set]
    exact LF_congr fun j hj => by
      by_cases e : j = i
      · subst e; simp [g2, hb]
      · have : decide (j < i) = decide (j < i + 1) := by simp; omega
        simp [g2, e, this]
  have c := freeF h hH (cap := room) (taken := ((k - (fr bk i).length : Nat) : Int))
  have hi' := h.unset hH
  rw [hs] at c hi'
  have hl := fr_len bk i
  have : IntKind.i64.wrap (((k - (fr bk i).length : Nat) : Int) - 1) = ((k - (fr bk (i + 1)).length : Nat) : Int) := by
    rw [fr_succ, if_pos hb, List.length_append, List.length_singleton, wrap64 (by omega) (by omega)]; omega
  rw [this] at c
  exact ⟨c, hi'⟩
theorem free2 (room t : Int) (bk : Nat → Bool) (k i : Nat) (low : Int) (h : Inv low (LF (g2 bk k (i + 1)) (up8 k))) (hi : i < k) (hb : bk i = true) :
    ATriple Try.prog gv R0 14 [.ref (0, 0) 0, i64V i] [.abs (slF room t low (LF (g2 bk k (i + 1)) (up8 k)))] (.bool false) [.abs (slF room t low (LF (g2 bk k (i + 1)) (up8 k)))] none :=
  freeN h (.inr fun p hp => by
    have hu := up8_ge k
    rw [Int.toNat_natCast, LF_get _ _ i (by omega)] at hp
    cases hp; simp [g2, hb])
theorem take3 (room : Int) (k i : Nat) (F : List Nat) (low : Int) (hk : k ≤ 255) (hr : (k : Int) ≤ room) (hF : F.Pairwise (· < ·)) (hFk : ∀ j ∈ F, j < k) (hl : F.length ≤ k) (h : Inv low (LF (g3 F k i) (up8 k))) {x : Nat} (hx : F[i]? = some x) :
    ATriple Try.prog gv R0 13 [.ref (0, 0) 0] [.abs (slF room ((k - F.length + i : Nat) : Int) low (LF (g3 F k i) (up8 k)))] (.tup [i64V x, .bool true]) [.abs (slF room ((k - F.length + (i + 1) : Nat) : Int) ((x : Int) + 1) (LF (g3 F k (i + 1)) (up8 k)))] none ∧
    Inv ((x : Int) + 1) (LF (g3 F k (i + 1)) (up8 k)) := by
  have hu := up8_ge k
  obtain ⟨d1, d2⟩ := drop_next hF hx
  have hiF := (List.getElem?_eq_some_iff.1 hx).1
  have hxk := hFk x (List.mem_of_getElem? hx)
  have hf : ff (LF (g3 F k i) (up8 k)) = x := LF_ff (by omega) (fun j hj => by
      have hj2 : j ∉ F.drop i := fun hm => by
        rcases (d1 j).1 hm with rfl | hm
        · omega
        · have := d2 j hm; omega
      simp [g3, hj2]; omega) fun _ => by
      have : x ∈ F.drop i := (d1 x).2 (.inl rfl)
      simp [g3, this]
  have ht : tk (LF (g3 F k i) (up8 k)) = LF (g3 F k (i + 1)) (up8 k) := by
    rw [LF_tk hf, if_pos (by omega)]
    exact LF_congr fun j hj => by
      by_cases e : j = x
      · subst e
        have : j ∉ F.drop (i + 1) := fun hm => by have := d2 j hm; omega
        simp [g3, this, hxk]
      · have : (F.drop i).contains j = (F.drop (i + 1)).contains j := by
          rw [Bool.eq_iff_iff]
          simp only [List.contains_iff_mem]
          rw [d1 j]; simp [e]
        simp only [g3, if_neg e, this]
  have c := takeF h (cap := room) (taken := ((k - F.length + i : Nat) : Int)) (by omega)
  have hi' := h.take (by rw [LF_len]; have := up8_b (i := k) (by omega); omega)
  rw [hf, ht] at c hi'
  rw [wrap64 (n := (x : Int) + 1) (by omega) (by omega), wrap64 (by omega) (by omega)] at c
  exact ⟨c, hi'⟩
def stL1 (room n : Int) (back : List Bool) (k m : Nat) : St DV := mkSt 132 [(0, u8V room), (1, u8V n), (2, bkV back), (7, .ref (22, 1) 0), (8, i64V k), (9, i64V m)] [(21, .abs (slF room m m (LF (fun j => decide (j < m)) (up8 m))))] []
structure Z2 where
  i : Nat
  low : Int
abbrev bkf (back : List Bool) : Nat → Bool := fun j => back.getD j false
def stL2 (room n : Int) (back : List Bool) (k : Nat) (i : Nat) (low : Int) : St DV := mkSt 132 [(0, u8V room), (1, u8V n), (2, bkV back), (7, .ref (22, 1) 0), (8, i64V k), (12, .rsl (72, 1) 1 0 (fr (bkf back) i).length), (13, i64V i)]
  [(21, .abs (slF room ((k - (fr (bkf back) i).length : Nat) : Int) low (LF (g2 (bkf back) k i) (up8 k)))), (71, .row 1 (nV (fr (bkf back) i)) false)] []
def stL3 (room n : Int) (back : List Bool) (k : Nat) (F : List Nat) (i : Nat) (low : Int) : St DV := mkSt 132 [(0, u8V room), (1, u8V n), (2, bkV back), (7, .ref (22, 1) 0), (8, i64V k), (12, .rsl (72, 1) 1 0 F.length), (14, i64V i)]
  [(21, .abs (slF room ((k - F.length + i : Nat) : Int) low (LF (g3 F k i) (up8 k)))), (71, .row 1 (nV F) false)] []
theorem nV_app (l : List Nat) (i : Nat) : ((nV l).drop 0).take l.length ++ ([[i64V (i : Int)]].drop 0).take 1 = nV (l ++ [i]) := by
  have : (nV l).take l.length = nV l := List.take_of_length_le (by simp)
  simp [this]
theorem least_ok (room n : Int) (back : List Bool) (hr0 : 0 ≤ room) (hr1 : room ≤ 255) (hn0 : 0 ≤ n) (hn1 : n ≤ 255) : PTriple Try.prog gv 3 [u8V room, u8V n, bkV back] (.bool true) := by
  have hwr : IntKind.i64.wrap room = room := wrap64 (by omega) (by omega)
  have hwn : IntKind.i64.wrap n = n := wrap64 (by omega) (by omega)
  obtain ⟨k, hk⟩ : ∃ k : Nat, (if room < n then room else n) = (k : Int) := ⟨(if room < n then room else n).toNat, by split <;> omega⟩
  have hkr : (k : Int) ≤ room := by rw [← hk]; split <;> omega
  have hkn : k ≤ 255 := by omega
  have c0 := newF room
  rw [capOf_small hr0 (by omega)] at c0
  have pB := pure_B back
  refine PTriple.of_body (C := cxL) Try.func3 rfl (by kernel_rfl) (mixedOf _) fun E hE => ?_
  repeat' (conv => whnf); first
   | (apply And.intro; · first | exact Nat.le_of_ble_eq_true rfl | (show indep _ _ = true; kernel_rfl) | decide | exact ⟨by decide, by decide⟩ | exact ⟨Nat.le_of_ble_eq_true rfl, allOne_of rfl⟩)
   | (apply Exists.intro; apply And.intro; · first | exact rfl)
   | rw [hwr]
   | (apply Exists.intro; apply Exists.intro; apply Exists.intro; apply And.intro; · first | (refine ATriple.callN (c0) ?_ ?_ ?_ <;> rfl))
   | fail
  all_goals (conv => whnf)
  refine VLoop.norm [0, 1, 2, 7, 8, 9] [21] ?_
  repeat' (conv => whnf); first
   | (apply And.intro; · first | exact Nat.le_of_ble_eq_true rfl | (show indep _ _ = true; kernel_rfl) | decide | exact pB)
   | (apply Exists.intro; apply And.intro; · first | exact rfl)
   | fail
  refine VLoop.inv (fun m : Nat => stL1 room n back k m) (fun m => m ≤ k) (fun m => k - m) 0 (Nat.zero_le _) (by rw [stL1, ← hk]; simp only [hwr, hwn]; rfl) ?_
  intro m hm ih
  have hw : IntKind.i64.wrap ((m : Int) + 1) = ((m + 1 : Nat) : Int) := wrap64 (by omega) (by omega)
  refine VLoop.unroll hE (mixedOf _) ?_
  conv => whnf
  refine bcase_of (fun hr => ?_) (fun hr => ?_)
  case refine_1 =>
    have hmk : m < k := by have : (m : Int) < k := (by simpa using hr); omega
    have c1 := take1 room m (by omega) (by omega)
    repeat' (conv => whnf); first
     | (refine bcase_of (fun hr => ?_) (fun hr => ?_) <;> try (exfalso; simp at hr; done))
     | (apply And.intro; · first | exact Nat.le_of_ble_eq_true rfl | (show indep _ _ = true; kernel_rfl) | decide | exact ⟨by decide, by decide⟩ | exact ⟨Nat.le_of_ble_eq_true rfl, allOne_of rfl⟩)
     | (apply Exists.intro; apply And.intro; · first | exact rfl)
     | (apply Exists.intro; apply Exists.intro; apply Exists.intro; apply And.intro; · first | (refine ATriple.callN (c1) ?_ ?_ ?_ <;> rfl))
     | fail
    all_goals (conv => whnf)
    refine VLoop.norm [0, 1, 2, 7, 8, 9] [21] ?_
    repeat' (conv => whnf); first
     | (apply And.intro; · first | exact Nat.le_of_ble_eq_true rfl | (show indep _ _ = true; kernel_rfl) | decide | exact pB)
     | (apply Exists.intro; apply And.intro; · first | exact rfl)
     | fail
    rw [hw]
    exact ih (m + 1) (by omega) (by omega)
  case refine_2 =>
    obtain rfl : m = k := by
      have : ¬ ((m : Int) < k) := by simpa using hr
      omega
    clear ih hw
    repeat' (conv => whnf); first
     | (refine bcase_of (fun hr => ?_) (fun hr => ?_) <;> try (exfalso; simp at hr; done))
     | (apply And.intro; · first | exact Nat.le_of_ble_eq_true rfl | (show indep _ _ = true; kernel_rfl) | decide | exact ⟨by decide, by decide⟩ | exact ⟨Nat.le_of_ble_eq_true rfl, allOne_of rfl⟩)
     | (apply Exists.intro; apply And.intro; · first | exact rfl)
     | fail
    all_goals (conv => whnf)
    refine VLoop.adopt 12 71 1 ?_
    conv => whnf
    refine VLoop.norm [0, 1, 2, 7, 8, 12, 13] [21, 71] ?_
    repeat' (conv => whnf); first
     | (apply And.intro; · first | exact Nat.le_of_ble_eq_true rfl | (show indep _ _ = true; kernel_rfl) | decide | exact pB | exact pure_nil)
     | (apply Exists.intro; apply And.intro; · first | exact rfl)
     | fail
    have hz0 : LF (fun j => decide (j < m)) (up8 m) = LF (g2 (bkf back) m 0) (up8 m) := LF_congr fun j _ => by simp [g2]
    refine VLoop.inv (fun z : Z2 => stL2 room n back m z.i z.low) (fun z => z.i ≤ m ∧ Inv z.low (LF (g2 (bkf back) m z.i) (up8 m))) (fun z => m - z.i) ⟨0, m⟩ ⟨Nat.zero_le _, by rw [← hz0]; exact inv1 (by omega)⟩ (by rw [hz0]; rfl) ?_
    rintro ⟨i, low⟩ ⟨him, inv⟩ ih
    simp only at him inv ih
    show VLoop cxL E _ (stL2 room n back m i low) _
    have hw : IntKind.i64.wrap ((i : Int) + 1) = ((i + 1 : Nat) : Int) := wrap64 (by omega) (by omega)
    have hbl : (back.map fun x => [V.bool x]).length = back.length := by simp
    refine VLoop.unroll hE (mixedOf _) ?_
    conv => whnf
    by_cases hgo : i < m ∧ i < back.length
    case pos =>
      obtain ⟨b, hb⟩ : ∃ b, back[i]? = some b := ⟨_, List.getElem?_eq_getElem hgo.2⟩
      have hbk : bkf back i = b := by simp [bkf, List.getD_eq_getElem?_getD, hb]
      cases b with
      | true =>
        obtain ⟨c1, inv'⟩ := free1 room (bkf back) m i low hkn inv hgo.1 hbk
        have c2 := free2 room ((m - (fr (bkf back) (i + 1)).length : Nat) : Int) (bkf back) m i (if (i : Int) < low then i else low) inv' hgo.1 hbk
        have hfr : fr (bkf back) (i + 1) = fr (bkf back) i ++ [i] := by rw [fr_succ, if_pos hbk]
        have hfl := fr_len (bkf back) i
        have hfe : (fr (bkf back) (i + 1)).length = (fr (bkf back) i).length + 1 := by rw [hfr]; simp
        have hra : 0 + (fr (bkf back) i).length ≤ (nV (fr (bkf back) i)).length ∧ (false = true → 0 + (fr (bkf back) i).length = (nV (fr (bkf back) i)).length) ∧ ((fr (bkf back) i).length + (([[i64V (i : Int)]].drop 0).take 1).length) * 8 ≤ roomBound ∧ (fr (bkf back) i).length + (([[i64V (i : Int)]].drop 0).take 1).length ≤ roomBound := ⟨by simp, (by intro h; cases h), by unfold roomBound; simp; omega, by unfold roomBound; simp; omega⟩
        repeat' (conv => whnf); first
         | (refine bcase_of (fun hr => ?_) (fun hr => ?_) <;> (try (exfalso; simp at hr; omega)))
         | (apply And.intro; · first | exact Nat.le_of_ble_eq_true rfl | (show indep _ _ = true; kernel_rfl) | decide | exact ⟨by omega, by rw [hbl]; omega⟩ | exact hra | exact allOne_of rfl | exact ⟨by decide, by decide⟩ | exact ⟨Nat.le_of_ble_eq_true rfl, allOne_of rfl⟩)
         | (apply Exists.intro; apply And.intro; · first | exact rfl | (show lget _ _ = some [.bool true]; rw [lget_eq, Int.toNat_natCast, List.getElem?_map, hb]; rfl))
         | (apply Exists.intro; apply Exists.intro; apply Exists.intro; apply And.intro; · first | (refine ATriple.callN (c1) ?_ ?_ ?_ <;> rfl) | (refine ATriple.callN (c2) ?_ ?_ ?_ <;> rfl))
         | fail
        all_goals (conv => whnf)
        refine VLoop.norm [0, 1, 2, 7, 8, 12, 13] [21, 71] ?_
        repeat' (conv => whnf); first
         | (apply And.intro; · first | exact Nat.le_of_ble_eq_true rfl | (show indep _ _ = true; kernel_rfl) | decide | exact pB | (rw [nV_app, ← hfr]; exact pure_N _))
         | (apply Exists.intro; apply And.intro; · first | exact rfl)
         | fail
        rw [nV_app, ← hfr, hw]
        have h1 : (fr (bkf back) i).length + (([[i64V (i : Int)]].drop 0).take 1).length = (fr (bkf back) (i + 1)).length := by rw [hfe]; rfl
        rw [h1]
        exact ih ⟨i + 1, if (i : Int) < low then i else low⟩ ⟨hgo.1, inv'⟩ (by show m - (i + 1) < m - i; omega)
      | false =>
        have hfr : fr (bkf back) (i + 1) = fr (bkf back) i := by rw [fr_succ, hbk]; rfl
        have hL : LF (g2 (bkf back) m i) (up8 m) = LF (g2 (bkf back) m (i + 1)) (up8 m) := LF_congr fun j hj => by
          by_cases e : j = i
          · subst e; simp [g2, hb]
          · have : decide (j < i) = decide (j < i + 1) := by simp; omega
            simp [g2, this]
        repeat' (conv => whnf); first
         | (refine bcase_of (fun hr => ?_) (fun hr => ?_) <;> (try (exfalso; simp at hr; omega)))
         | (apply And.intro; · first | exact Nat.le_of_ble_eq_true rfl | (show indep _ _ = true; kernel_rfl) | decide | exact ⟨by omega, by rw [hbl]; omega⟩ | exact ⟨by decide, by decide⟩ | exact ⟨Nat.le_of_ble_eq_true rfl, allOne_of rfl⟩)
         | (apply Exists.intro; apply And.intro; · first | exact rfl | (show lget _ _ = some [.bool false]; rw [lget_eq, Int.toNat_natCast, List.getElem?_map, hb]; rfl))
         | fail
        all_goals (conv => whnf)
        refine VLoop.norm [0, 1, 2, 7, 8, 12, 13] [21, 71] ?_
        repeat' (conv => whnf); first
         | (apply And.intro; · first | exact Nat.le_of_ble_eq_true rfl | (show indep _ _ = true; kernel_rfl) | decide | exact pB | exact pure_N _)
         | (apply Exists.intro; apply And.intro; · first | exact rfl)
         | fail
        rw [hw, ← hfr, hL]
        exact ih ⟨i + 1, low⟩ ⟨hgo.1, by rw [← hL]; exact inv⟩ (by show m - (i + 1) < m - i; omega)
    case neg =>
      have hF : fr (bkf back) i = fr (bkf back) m := by
        unfold fr
        obtain ⟨d, rfl⟩ : ∃ d, m = i + d := ⟨m - i, by omega⟩
        rw [List.range_add, List.filter_append]
        have : ((List.range d).map fun x => i + x).filter (bkf back) = [] := List.filter_eq_nil_iff.2 fun j hj => by
          obtain ⟨x, hx, rfl⟩ := List.mem_map.1 hj
          have hx := List.mem_range.1 hx
          have : back[i + x]? = none := List.getElem?_eq_none (by omega)
          simp [bkf, List.getD_eq_getElem?_getD, this]
        rw [this, List.append_nil]
      have hL : LF (g2 (bkf back) m i) (up8 m) = LF (g3 (fr (bkf back) m) m 0) (up8 m) := LF_congr fun j hj => by
        by_cases hjm : j < m
        · have : (decide (j < i) && bkf back j) = (fr (bkf back) m).contains j := by
            rw [Bool.eq_iff_iff]
            rw [List.contains_iff_mem, ← hF]
            simp only [fr_mem, Bool.and_eq_true, decide_eq_true_eq]
          simp only [g2, g3, List.drop_zero, this]
        · simp [g2, g3, hjm]
      rw [hF, hL]
      rw [hL] at inv
      clear ih hw hL hF
      have hFl := fr_len (bkf back) m
      have hFs := fr_sorted (bkf back) m
      have hFm : ∀ j ∈ fr (bkf back) m, j < m := fun j hj => (fr_mem.1 hj).1
      generalize fr (bkf back) m = F at *
      have c1 := lenF room ((m - F.length : Nat) : Int) low (LF (g3 F m 0) (up8 m))
      have c2 := pagesF room ((m - F.length : Nat) : Int) low (LF (g3 F m 0) (up8 m))
      rw [LF_len] at c2
      have hw1 : IntKind.i64.wrap ((m : Int) - F.length) = ((m - F.length : Nat) : Int) := (wrap64 (by omega) (by omega)).trans (by omega)
      have hw2 : IntKind.i64.wrap ((m : Int) + 8) = m + 8 := wrap64 (by omega) (by omega)
      have hw3 : IntKind.i64.wrap ((m : Int) + 8 - 1) = ((m + 7 : Nat) : Int) := (wrap64 (by omega) (by omega)).trans (by omega)
      have hw4 : IntKind.i64.wrap (((m + 7 : Nat) : Int).tdiv 8) = ((up8 m / 8 : Nat) : Int) := by
        rw [div8 (by omega) (by omega), Int.toNat_natCast]; unfold up8; omega
      rcases Nat.lt_or_ge i m with hcase | hcase
      · repeat' (conv => whnf); first
         | (refine bcase_of (fun hr => ?_) (fun hr => ?_) <;> (try simp only [decide_eq_true_eq, decide_eq_false_iff_not] at hr) <;> try (exfalso; first | omega | (simp at hr; done) | (rw [hw1] at hr; simp at hr; done) | (rw [hw2, hw3, hw4] at hr; simp at hr; done)))
         | (apply And.intro; · first | exact Nat.le_of_ble_eq_true rfl | (show indep _ _ = true; kernel_rfl) | decide | exact ⟨by decide, by decide⟩ | exact ⟨Nat.le_of_ble_eq_true rfl, allOne_of rfl⟩)
         | (apply Exists.intro; apply And.intro; · first | exact rfl)
         | (apply Exists.intro; apply Exists.intro; apply Exists.intro; apply And.intro; · first | (refine ATriple.callN (c1) ?_ ?_ ?_ <;> rfl) | (refine ATriple.callN (c2) ?_ ?_ ?_ <;> rfl))
         | fail
        all_goals (conv => whnf)
        refine VLoop.norm [0, 1, 2, 7, 8, 12, 14] [21, 71] ?_
        repeat' (conv => whnf); first
         | (apply And.intro; · first | exact Nat.le_of_ble_eq_true rfl | (show indep _ _ = true; kernel_rfl) | decide | exact pB | exact pure_N _)
         | (apply Exists.intro; apply And.intro; · first | exact rfl)
         | fail
        refine VLoop.inv (fun z : Z2 => stL3 room n back m F z.i z.low) (fun z => z.i ≤ F.length ∧ Inv z.low (LF (g3 F m z.i) (up8 m))) (fun z => F.length - z.i) ⟨0, low⟩ ⟨Nat.zero_le _, inv⟩ rfl ?_
        rintro ⟨i, low⟩ ⟨him, inv⟩ ih
        simp only at him inv ih
        show VLoop cxL E _ (stL3 room n back m F i low) _
        have hnl : (nV F).length = F.length := by simp
        by_cases hgo : i < F.length
        case pos =>
          have hw : IntKind.i64.wrap ((i : Int) + 1) = ((i + 1 : Nat) : Int) := wrap64 (by omega) (by omega)
          obtain ⟨x, hx⟩ : ∃ x, F[i]? = some x := ⟨_, List.getElem?_eq_getElem hgo⟩
          obtain ⟨c3, inv'⟩ := take3 room m i F low hkn hkr hFs hFm hFl inv hx
          refine VLoop.unroll hE (mixedOf _) ?_
          repeat' (conv => whnf); first
           | (refine bcase_of (fun hr => ?_) (fun hr => ?_) <;> (try simp only [decide_eq_true_eq, decide_eq_false_iff_not] at hr) <;> try (exfalso; first | omega | (simp at hr; done) | (rw [hw1] at hr; simp at hr; done) | (rw [hw2, hw3, hw4] at hr; simp at hr; done)))
           | (apply And.intro; · first | exact Nat.le_of_ble_eq_true rfl | (show indep _ _ = true; kernel_rfl) | decide | exact ⟨by omega, by omega⟩ | exact ⟨by decide, by decide⟩ | exact ⟨Nat.le_of_ble_eq_true rfl, allOne_of rfl⟩)
           | (apply Exists.intro; apply And.intro; · first | exact rfl | (show lget _ _ = some [i64V (x : Int)]; rw [lget_eq, Nat.zero_add, Int.toNat_natCast, List.getElem?_map, hx]; rfl))
           | (apply Exists.intro; apply Exists.intro; apply Exists.intro; apply And.intro; · first | (refine ATriple.callN (c3) ?_ ?_ ?_ <;> rfl))
           | fail
          all_goals (conv => whnf)
          refine VLoop.norm [0, 1, 2, 7, 8, 12, 14] [21, 71] ?_
          repeat' (conv => whnf); first
           | (apply And.intro; · first | exact Nat.le_of_ble_eq_true rfl | (show indep _ _ = true; kernel_rfl) | decide | exact pB | exact pure_N _)
           | (apply Exists.intro; apply And.intro; · first | exact rfl)
           | fail
          rw [hw]
          exact ih ⟨i + 1, (x : Int) + 1⟩ ⟨hgo, inv'⟩ (by show F.length - (i + 1) < F.length - i; omega)
        case neg =>
          obtain rfl : i = F.length := by omega
          have hall : LF (g3 F m F.length) (up8 m) = LF (fun j => decide (j < m)) (up8 m) := LF_congr fun j _ => by simp [g3]
          have htk : m - F.length + F.length = m := by omega
          rw [show stL3 room n back m F F.length low = mkSt 132 [(0, u8V room), (1, u8V n), (2, bkV back), (7, .ref (22, 1) 0), (8, i64V m), (12, .rsl (72, 1) 1 0 F.length), (14, i64V F.length)]
            [(21, .abs (slF room (m : Int) low (LF (fun j => decide (j < m)) (up8 m)))), (71, .row 1 (nV F) false)] [] by rw [stL3, hall, htk]]
          rw [hall] at inv
          by_cases hlast : (m : Int) < room
          case pos =>
            have c4 := takeF inv hlast (cap := room) (taken := (m : Int))
            rw [(LF_next m).2, (LF_next m).1] at c4
            refine VLoop.unroll hE (mixedOf _) ?_
            repeat' (conv => whnf); first
             | (refine bcase_of (fun hr => ?_) (fun hr => ?_) <;> (try simp only [decide_eq_true_eq, decide_eq_false_iff_not] at hr) <;> try (exfalso; first | omega | (rw [hwr] at hr; simp [hlast] at hr; done) | (simp at hr; done) | (rw [hw1] at hr; simp at hr; done) | (rw [hw2, hw3, hw4] at hr; simp at hr; done)))
             | (apply And.intro; · first | exact Nat.le_of_ble_eq_true rfl | (show indep _ _ = true; kernel_rfl) | decide | exact ⟨by decide, by decide⟩ | exact ⟨Nat.le_of_ble_eq_true rfl, allOne_of rfl⟩)
             | (apply Exists.intro; apply And.intro; · first | exact rfl | exact wakes_ok)
             | (apply Exists.intro; apply Exists.intro; apply Exists.intro; apply And.intro; · first | (refine ATriple.callN (c4) ?_ ?_ ?_ <;> rfl))
             | fail
            all_goals (conv => whnf)
            all_goals rfl
          case neg =>
            have c4 := takeFull (low := low) (L := LF (fun j => decide (j < m)) (up8 m)) (show room ≤ (m : Int) by omega)
            refine VLoop.unroll hE (mixedOf _) ?_
            repeat' (conv => whnf); first
             | (refine bcase_of (fun hr => ?_) (fun hr => ?_) <;> (try simp only [decide_eq_true_eq, decide_eq_false_iff_not] at hr) <;> try (exfalso; first | omega | (rw [hwr] at hr; simp [hlast] at hr; done) | (simp at hr; done) | (rw [hw1] at hr; simp at hr; done) | (rw [hw2, hw3, hw4] at hr; simp at hr; done)))
             | (apply And.intro; · first | exact Nat.le_of_ble_eq_true rfl | (show indep _ _ = true; kernel_rfl) | decide | exact ⟨by decide, by decide⟩ | exact ⟨Nat.le_of_ble_eq_true rfl, allOne_of rfl⟩)
             | (apply Exists.intro; apply And.intro; · first | exact rfl | exact wakes_ok)
             | (apply Exists.intro; apply Exists.intro; apply Exists.intro; apply And.intro; · first | (refine ATriple.callN (c4) ?_ ?_ ?_ <;> rfl))
             | fail
            all_goals (conv => whnf)
            all_goals rfl
      · repeat' (conv => whnf); first
         | (refine bcase_of (fun hr => ?_) (fun hr => ?_) <;> (try simp only [decide_eq_true_eq, decide_eq_false_iff_not] at hr) <;> try (exfalso; first | omega | (simp at hr; done) | (rw [hw1] at hr; simp at hr; done) | (rw [hw2, hw3, hw4] at hr; simp at hr; done)))
         | (apply And.intro; · first | exact Nat.le_of_ble_eq_true rfl | (show indep _ _ = true; kernel_rfl) | decide | exact ⟨by decide, by decide⟩ | exact ⟨Nat.le_of_ble_eq_true rfl, allOne_of rfl⟩)
         | (apply Exists.intro; apply And.intro; · first | exact rfl)
         | (apply Exists.intro; apply Exists.intro; apply Exists.intro; apply And.intro; · first | (refine ATriple.callN (c1) ?_ ?_ ?_ <;> rfl) | (refine ATriple.callN (c2) ?_ ?_ ?_ <;> rfl))
         | fail
        all_goals (conv => whnf)
        refine VLoop.norm [0, 1, 2, 7, 8, 12, 14] [21, 71] ?_
        repeat' (conv => whnf); first
         | (apply And.intro; · first | exact Nat.le_of_ble_eq_true rfl | (show indep _ _ = true; kernel_rfl) | decide | exact pB | exact pure_N _)
         | (apply Exists.intro; apply And.intro; · first | exact rfl)
         | fail
        refine VLoop.inv (fun z : Z2 => stL3 room n back m F z.i z.low) (fun z => z.i ≤ F.length ∧ Inv z.low (LF (g3 F m z.i) (up8 m))) (fun z => F.length - z.i) ⟨0, low⟩ ⟨Nat.zero_le _, inv⟩ rfl ?_
        rintro ⟨i, low⟩ ⟨him, inv⟩ ih
        simp only at him inv ih
        show VLoop cxL E _ (stL3 room n back m F i low) _
        have hnl : (nV F).length = F.length := by simp
        by_cases hgo : i < F.length
        case pos =>
          have hw : IntKind.i64.wrap ((i : Int) + 1) = ((i + 1 : Nat) : Int) := wrap64 (by omega) (by omega)
          obtain ⟨x, hx⟩ : ∃ x, F[i]? = some x := ⟨_, List.getElem?_eq_getElem hgo⟩
          obtain ⟨c3, inv'⟩ := take3 room m i F low hkn hkr hFs hFm hFl inv hx
          refine VLoop.unroll hE (mixedOf _) ?_
          repeat' (conv => whnf); first
           | (refine bcase_of (fun hr => ?_) (fun hr => ?_) <;> (try simp only [decide_eq_true_eq, decide_eq_false_iff_not] at hr) <;> try (exfalso; first | omega | (simp at hr; done) | (rw [hw1] at hr; simp at hr; done) | (rw [hw2, hw3, hw4] at hr; simp at hr; done)))
           | (apply And.intro; · first | exact Nat.le_of_ble_eq_true rfl | (show indep _ _ = true; kernel_rfl) | decide | exact ⟨by omega, by omega⟩ | exact ⟨by decide, by decide⟩ | exact ⟨Nat.le_of_ble_eq_true rfl, allOne_of rfl⟩)
           | (apply Exists.intro; apply And.intro; · first | exact rfl | (show lget _ _ = some [i64V (x : Int)]; rw [lget_eq, Nat.zero_add, Int.toNat_natCast, List.getElem?_map, hx]; rfl))
           | (apply Exists.intro; apply Exists.intro; apply Exists.intro; apply And.intro; · first | (refine ATriple.callN (c3) ?_ ?_ ?_ <;> rfl))
           | fail
          all_goals (conv => whnf)
          refine VLoop.norm [0, 1, 2, 7, 8, 12, 14] [21, 71] ?_
          repeat' (conv => whnf); first
           | (apply And.intro; · first | exact Nat.le_of_ble_eq_true rfl | (show indep _ _ = true; kernel_rfl) | decide | exact pB | exact pure_N _)
           | (apply Exists.intro; apply And.intro; · first | exact rfl)
           | fail
          rw [hw]
          exact ih ⟨i + 1, (x : Int) + 1⟩ ⟨hgo, inv'⟩ (by show F.length - (i + 1) < F.length - i; omega)
        case neg =>
          obtain rfl : i = F.length := by omega
          have hall : LF (g3 F m F.length) (up8 m) = LF (fun j => decide (j < m)) (up8 m) := LF_congr fun j _ => by simp [g3]
          have htk : m - F.length + F.length = m := by omega
          rw [show stL3 room n back m F F.length low = mkSt 132 [(0, u8V room), (1, u8V n), (2, bkV back), (7, .ref (22, 1) 0), (8, i64V m), (12, .rsl (72, 1) 1 0 F.length), (14, i64V F.length)]
            [(21, .abs (slF room (m : Int) low (LF (fun j => decide (j < m)) (up8 m)))), (71, .row 1 (nV F) false)] [] by rw [stL3, hall, htk]]
          rw [hall] at inv
          by_cases hlast : (m : Int) < room
          case pos =>
            have c4 := takeF inv hlast (cap := room) (taken := (m : Int))
            rw [(LF_next m).2, (LF_next m).1] at c4
            refine VLoop.unroll hE (mixedOf _) ?_
            repeat' (conv => whnf); first
             | (refine bcase_of (fun hr => ?_) (fun hr => ?_) <;> (try simp only [decide_eq_true_eq, decide_eq_false_iff_not] at hr) <;> try (exfalso; first | omega | (rw [hwr] at hr; simp [hlast] at hr; done) | (simp at hr; done) | (rw [hw1] at hr; simp at hr; done) | (rw [hw2, hw3, hw4] at hr; simp at hr; done)))
             | (apply And.intro; · first | exact Nat.le_of_ble_eq_true rfl | (show indep _ _ = true; kernel_rfl) | decide | exact ⟨by decide, by decide⟩ | exact ⟨Nat.le_of_ble_eq_true rfl, allOne_of rfl⟩)
             | (apply Exists.intro; apply And.intro; · first | exact rfl | exact wakes_ok)
             | (apply Exists.intro; apply Exists.intro; apply Exists.intro; apply And.intro; · first | (refine ATriple.callN (c4) ?_ ?_ ?_ <;> rfl))
             | fail
            all_goals (conv => whnf)
            all_goals rfl
          case neg =>
            have c4 := takeFull (low := low) (L := LF (fun j => decide (j < m)) (up8 m)) (show room ≤ (m : Int) by omega)
            refine VLoop.unroll hE (mixedOf _) ?_
            repeat' (conv => whnf); first
             | (refine bcase_of (fun hr => ?_) (fun hr => ?_) <;> (try simp only [decide_eq_true_eq, decide_eq_false_iff_not] at hr) <;> try (exfalso; first | omega | (rw [hwr] at hr; simp [hlast] at hr; done) | (simp at hr; done) | (rw [hw1] at hr; simp at hr; done) | (rw [hw2, hw3, hw4] at hr; simp at hr; done)))
             | (apply And.intro; · first | exact Nat.le_of_ble_eq_true rfl | (show indep _ _ = true; kernel_rfl) | decide | exact ⟨by decide, by decide⟩ | exact ⟨Nat.le_of_ble_eq_true rfl, allOne_of rfl⟩)
             | (apply Exists.intro; apply And.intro; · first | exact rfl | exact wakes_ok)
             | (apply Exists.intro; apply Exists.intro; apply Exists.intro; apply And.intro; · first | (refine ATriple.callN (c4) ?_ ?_ ?_ <;> rfl))
             | fail
            all_goals (conv => whnf)
            all_goals rfl
end Go.Proofs.Ytbppemcdphgknaa
