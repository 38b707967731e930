/- Chapter 15: what its functions come to (BlkW): BlockFills. -/
import Derived.Test.YtmmenojmldollaaBlkV
set_option linter.unusedVariables false
set_option linter.unusedSimpArgs false
namespace Go.Proofs.Ytmmenojmldollaa
open Go Go.Vm
set_option maxRecDepth 100000
set_option maxHeartbeats 4000000
set_option linter.unusedSimpArgs false
set_option linter.unusedVariables false
theorem pure_nil : PureEs [] := fun e he => by cases he
theorem pure_take {a : List (List V)} (h : PureEs a) (n : Nat) : PureEs (a.take n) := fun e he => h e (List.mem_of_mem_take he)
theorem pure_drop {a : List (List V)} (h : PureEs a) (n : Nat) : PureEs (a.drop n) := fun e he => h e (List.mem_of_mem_drop he)
theorem pure_app {a b : List (List V)} (h : PureEs a) (h' : PureEs b) : PureEs (a ++ b) := fun e he => by
  rcases List.mem_append.1 he with he | he
  · exact h e he
  · exact h' e he
abbrev kE (x : Int) : List V := [u32V x]
abbrev uV (l : List Int) : V := .lst 1 (l.map kE)
theorem pure_k (l : List Int) : PureEs (l.map kE) := fun e he v hv => by
  obtain ⟨x, _, rfl⟩ := List.mem_map.1 he
  obtain rfl : v = u32V x := by simpa using hv
  exact .int _ _
theorem pure_k1 (x : Int) : PureEs [kE x] := pure_k [x]
theorem one_k1 (x : Int) : allOne [kE x] 1 := allOne_of rfl
theorem room_k {n m x : Nat} (h : n ≤ x) (hn : n ≤ 1000) (hm : m ≤ 1000) : 0 + n ≤ x ∧ (false = true → 0 + n = x) ∧ (n + m) * 4 ≤ roomBound ∧ n + m ≤ roomBound := ⟨by omega, (by intro h; cases h), (by unfold roomBound; omega), (by unfold roomBound; omega)⟩
structure ZW where
  q : Nat
  g : List (Int × Int)
  S : List Int
  es : List (List V)
  n : Nat
  i : Int
def stA (q : Nat) (l : List Int) (g : List (Int × Int)) (es : List (List V)) (n : Nat) (i : Int) : St Empty := match q with
  | 0 => mkSt 151 [(0, uV l), (3, .ref (4, 1) 0), (4, .nils), (5, i64V i)] [(3, .box (bc (B g)))] []
  | _ => mkSt 151 [(0, uV l), (3, .ref (4, 1) 0), (4, .rsl (77, 1) 1 0 n), (5, i64V i)] [(3, .box (bc (B g))), (76, .row 1 es false)] []
def stB (q : Nat) (l : List Int) (g : List (Int × Int)) (es : List (List V)) (n : Nat) (i : Int) (th : Bool) (m : Int) : St Empty := match q with
  | 0 => mkSt 151 [(0, uV l), (3, .ref (4, 1) 0), (4, .nils), (5, i64V i), (6, .bool th), (7, i64V m)] [(3, .box (bc (B g)))] []
  | _ => mkSt 151 [(0, uV l), (3, .ref (4, 1) 0), (4, .rsl (77, 1) 1 0 n), (5, i64V i), (6, .bool th), (7, i64V m)] [(3, .box (bc (B g))), (76, .row 1 es false)] []
def stC (q : Nat) (l : List Int) (g : List (Int × Int)) (es : List (List V)) (n : Nat) (m : Int) : St Empty := match q with
  | 0 => mkSt 151 [(0, uV l), (3, .ref (4, 1) 0), (4, .nils), (10, i64V m)] [(3, .box (bc (B g)))] []
  | _ => mkSt 151 [(0, uV l), (3, .ref (4, 1) 0), (4, .rsl (77, 1) 1 0 n), (10, i64V m)] [(3, .box (bc (B g))), (76, .row 1 es false)] []
def stD (q : Nat) (l : List Int) (g : List (Int × Int)) (es : List (List V)) (n : Nat) (m last i : Int) : St Empty := match q with
  | 0 => mkSt 151 [(0, uV l), (3, .ref (4, 1) 0), (4, .nils), (10, i64V m), (11, i64V last), (12, i64V 0), (13, i64V i)] [(3, .box (bc (B g)))] []
  | _ => mkSt 151 [(0, uV l), (3, .ref (4, 1) 0), (4, .rsl (77, 1) 1 0 n), (10, i64V m), (11, i64V last), (12, i64V 0), (13, i64V i)] [(3, .box (bc (B g))), (76, .row 1 es false)] []
def stE (q : Nat) (l : List Int) (g : List (Int × Int)) (es : List (List V)) (n : Nat) (m last c j : Int) : St Empty := match q with
  | 0 => mkSt 151 [(0, uV l), (3, .ref (4, 1) 0), (4, .nils), (10, i64V m), (11, i64V last), (12, i64V c), (14, i64V j)] [(3, .box (bc (B g)))] []
  | _ => mkSt 151 [(0, uV l), (3, .ref (4, 1) 0), (4, .rsl (77, 1) 1 0 n), (10, i64V m), (11, i64V last), (12, i64V c), (14, i64V j)] [(3, .box (bc (B g))), (76, .row 1 es false)] []
def InW (l : List Int) (z : ZW) : Prop := z.q ≤ 1 ∧ FInv l z.g z.S z.i.toNat ∧ z.es = z.S.map kE ∧ z.n = z.S.length ∧ 0 ≤ z.i ∧ z.i ≤ l.length ∧ (z.q = 0 → z.S = [])
theorem fills_ok (l : List Int) : PTriple Try.prog gv 6 [uV l] (.bool true) := by
  have hlen : (l.map kE).length = l.length := by simp
  refine PTriple.of_body (C := cx) Try.func6 rfl (by kernel_rfl) mixed fun E hE => ?_
  repeat' (conv => whnf); first
   | (refine bcase_of (fun hr => ?_) (fun hr => ?_) <;> (try have hl3 : l.length ≤ 60 := by simp at hr; omega) <;> try (exfalso; simp at hr; done))
   | (apply And.intro; · first | exact Nat.le_of_ble_eq_true rfl | (show indep _ _ = true; kernel_rfl) | decide | exact pure_k _)
   | (apply Exists.intro; apply And.intro; · first | exact rfl | exact wakes_ok)
   | fail
  all_goals (conv => whnf)
  · rfl
  refine VLoop.norm [0, 3, 4, 5] [3] ?_
  repeat' (conv => whnf); first | (apply And.intro; · first | exact pure_k _ | ((repeat' first | exact pure_k _ | exact pure_k1 _ | exact pure_nil | apply pure_app | apply pure_take | apply pure_drop); done)) | fail
  all_goals (conv => whnf)
  refine VLoop.inv (fun z : ZW => stA z.q l z.g z.es z.n z.i) (InW l) (fun z => l.length - z.i.toNat) ⟨0, [], [], [], 0, 0⟩ ?_ rfl ?_
  · exact ⟨Nat.le_of_ble_eq_true rfl, FInv.start l, rfl, rfl, Int.le_refl _, by simp, fun _ => rfl⟩
  rintro ⟨q, g, S, es, n, i⟩ ⟨hq, inv, r1, r2, g1, g2, g3⟩ ih
  simp only at hq inv r1 r2 g1 g2 g3 ih
  subst r1 r2
  have gl := inv.lg
  have gN := n_B gl.len
  have gS := inv.len
  have g6 := gl.len
  have tS : (S.map kE).take S.length = S.map kE := List.take_of_length_le (by simp)
  have hSe : (S.map kE).length = S.length := by simp
  have hi : ((i.toNat : Nat) : Int) = i := Int.toNat_of_nonneg g1
  have gg := good_ok (B g)
  rw [goodB_B gl] at gg
  rcases (show q = 0 ∨ q = 1 by omega) with rfl | rfl
  · obtain rfl := g3 rfl
    show VLoop cx E _ (stA 0 l g [] 0 i) _
    refine VLoop.unroll hE mixed ?_
    conv => whnf
    refine bcase_of (fun hr => ?_) (fun hr => ?_)
    case refine_2 =>
      have hil : i.toNat = l.length := by simp at hr; omega
      rw [hil] at inv
      repeat' (conv => whnf); first
       | (refine bcase_of (fun hr => ?_) (fun hr => ?_) <;> (try simp [gN, gS] at hr))
       | (apply And.intro; · first | exact Nat.le_of_ble_eq_true rfl | (show indep _ _ = true; kernel_rfl) | decide)
       | (apply Exists.intro; apply And.intro; · first | exact rfl | exact gg)
       | fail
      all_goals (conv => whnf)
      refine VLoop.unroll hE mixed ?_
      repeat' (conv => whnf); first
       | (refine bcase_of (fun hr => ?_) (fun hr => ?_) <;> skip)
       | (apply And.intro; · first | exact Nat.le_of_ble_eq_true rfl | (show indep _ _ = true; kernel_rfl) | decide)
       | (apply Exists.intro; apply And.intro; · first | exact rfl | exact wakes_ok)
       | fail
      all_goals (conv => whnf)
      all_goals rfl
    case refine_1 =>
      have hn : i < l.length := by simp at hr; omega
      have hw : IntKind.i64.wrap (i + 1) = i + 1 := wrapI64 (by omega) (by omega)
      have hw2 : (i + 1).toNat = i.toNat + 1 := by omega
      obtain ⟨x, hx⟩ : ∃ z, l[i.toNat]? = some z := ⟨_, List.getElem?_eq_getElem (by omega)⟩
      repeat' (conv => whnf); first
       | (refine bcase_of (fun hr => ?_) (fun hr => ?_) <;> (try (exfalso; simp at hr; done)))
       | (apply And.intro; · first | exact Nat.le_of_ble_eq_true rfl | (show indep _ _ = true; kernel_rfl) | decide)
       | (apply Exists.intro; apply And.intro; · first | exact rfl)
       | fail
      all_goals (conv => whnf)
      refine VLoop.unroll hE mixed ?_
      obtain ⟨f1, f2⟩ := inv.new hx (by simp) (by decide)
      rw [hi] at f1 f2
      have p1 := put_ok g gl x i f1
      repeat' (conv => whnf); first
       | (refine bcase_of (fun hr => ?_) (fun hr => ?_) <;> (try simp at hr) <;> try (exfalso; omega))
       | (apply And.intro; · first | exact Nat.le_of_ble_eq_true rfl | (show indep _ _ = true; kernel_rfl) | decide | exact ⟨g1, by rw [hlen]; omega⟩ | exact one_k1 _ | exact room_k (by first | (simp; done) | (simp; omega)) (by first | omega | (simp; done) | (simp; omega)) (by first | (simp; done) | (simp; omega)) | exact ⟨Nat.le_of_ble_eq_true rfl, Nat.le_of_ble_eq_true rfl⟩)
       | (apply Exists.intro; apply And.intro; · first | exact rfl | exact p1 | exact (show lget _ _ = some (kE x) by rw [lget_eq, List.getElem?_map, hx]; rfl))
       | fail
      all_goals (conv => whnf)
      refine VLoop.norm [0, 3, 4, 5] [3, 76] ?_
      repeat' (conv => whnf); first | (apply And.intro; · first | exact pure_k _ | ((repeat' first | exact pure_k _ | exact pure_k1 _ | exact pure_nil | apply pure_app | apply pure_take | apply pure_drop); done)) | fail
      all_goals (conv => whnf)
      refine ih ⟨1, (lay g x i), [x], (([kE x].drop 0).take 1), 1, IntKind.i64.wrap (i + 1)⟩ ⟨Nat.le_of_ble_eq_true rfl, by simp only [hw, hw2]; exact f2, ?_, ?_, by simp only [hw]; omega, by simp only [hw]; omega, fun h => (by cases h)⟩ (by simp only [hw]; omega)
      · first | rfl | (simp [tS]; done)
      · first | rfl | (simp [tS]; done)
  · show VLoop cx E _ (stA 1 l g (S.map kE) S.length i) _
    refine VLoop.unroll hE mixed ?_
    conv => whnf
    refine bcase_of (fun hr => ?_) (fun hr => ?_)
    case refine_2 =>
      have hil : i.toNat = l.length := by simp at hr; omega
      rw [hil] at inv
      repeat' (conv => whnf); first
       | (refine bcase_of (fun hr => ?_) (fun hr => ?_) <;> (try simp [gN, gS] at hr))
       | (apply And.intro; · first | exact Nat.le_of_ble_eq_true rfl | (show indep _ _ = true; kernel_rfl) | decide)
       | (apply Exists.intro; apply And.intro; · first | exact rfl | exact gg)
       | fail
      all_goals (conv => whnf)
      refine VLoop.norm [0, 3, 4, 10] [3, 76] ?_
      repeat' (conv => whnf); first | (apply And.intro; · first | exact pure_k _ | ((repeat' first | exact pure_k _ | exact pure_k1 _ | exact pure_nil | apply pure_app | apply pure_take | apply pure_drop); done)) | fail
      all_goals (conv => whnf)
      refine VLoop.inv (fun m : Int => stC 1 l g (S.map kE) S.length m) (fun m => 0 ≤ m ∧ m ≤ S.length) (fun m => S.length - m.toNat) 0 ⟨Int.le_refl _, by omega⟩ rfl ?_
      rintro m ⟨m1, m2⟩ ihm
      simp only at ihm
      show VLoop cx E _ (stC 1 l g (S.map kE) S.length m) _
      refine VLoop.unroll hE mixed ?_
      conv => whnf
      refine bcase_of (fun hr => ?_) (fun hr => ?_)
      case refine_2 =>
        repeat' (conv => whnf); first
         | (refine bcase_of (fun hr => ?_) (fun hr => ?_) <;> skip)
         | (apply And.intro; · first | exact Nat.le_of_ble_eq_true rfl | (show indep _ _ = true; kernel_rfl) | decide)
         | (apply Exists.intro; apply And.intro; · first | exact rfl | exact wakes_ok)
         | fail
        all_goals (conv => whnf)
        all_goals rfl
      case refine_1 =>
        have hmn : m < S.length := by simpa using hr
        have hwm : IntKind.i64.wrap (m + 1) = m + 1 := wrapI64 (by omega) (by omega)
        obtain ⟨K, hK⟩ : ∃ z, S[m.toNat]? = some z := ⟨_, List.getElem?_eq_getElem (by omega)⟩
        have hKS := List.mem_of_getElem? hK
        obtain ⟨k1, k2, k3⟩ := inv.find hKS
        have rk := rank_lt k1
        have rk0 := (rank_le g K).1
        have fd := find_ok g gl K
        rw [k1] at fd
        have vl := val_look (B g) rk0 (by omega)
        rw [k3] at vl
        generalize rank g K = R at fd vl rk rk0 k2
        repeat' (conv => whnf); first
         | (refine bcase_of (fun hr => ?_) (fun hr => ?_) <;> skip)
         | (apply And.intro; · first | exact Nat.le_of_ble_eq_true rfl | (show indep _ _ = true; kernel_rfl) | decide)
         | (apply Exists.intro; apply And.intro; · first | exact rfl)
         | fail
        all_goals (conv => whnf)
        refine VLoop.norm [0, 3, 4, 10, 11, 12, 13] [3, 76] ?_
        repeat' (conv => whnf); first | (apply And.intro; · first | exact pure_k _ | ((repeat' first | exact pure_k _ | exact pure_k1 _ | exact pure_nil | apply pure_app | apply pure_take | apply pure_drop); done)) | fail
        all_goals (conv => whnf)
        refine VLoop.inv (fun z : Int × Int => stD 1 l g (S.map kE) S.length m z.1 z.2) (fun z => 0 ≤ z.2 ∧ z.2 ≤ l.length ∧ z.1 = lastI l K z.2.toNat) (fun z => l.length - z.2.toNat) (0, 0) ⟨Int.le_refl _, by omega, rfl⟩ rfl ?_
        rintro ⟨la, a⟩ ⟨a1, a2, a3⟩ iha
        simp only at a1 a2 a3 iha
        show VLoop cx E _ (stD 1 l g (S.map kE) S.length m la a) _
        refine VLoop.unroll hE mixed ?_
        conv => whnf
        refine bcase_of (fun hr => ?_) (fun hr => ?_)
        case refine_1 =>
          have han : a < l.length := by simpa using hr
          have hwa : IntKind.i64.wrap (a + 1) = a + 1 := wrapI64 (by omega) (by omega)
          have hwa2 : (a + 1).toNat = a.toNat + 1 := by omega
          obtain ⟨y, hy⟩ : ∃ z, l[a.toNat]? = some z := ⟨_, List.getElem?_eq_getElem (by omega)⟩
          have hla : lastI l K (a.toNat + 1) = if y = K then a else la := by
            rw [a3]; rw [lastI]; rw [hy]; by_cases e : y = K <;> simp [e, Int.toNat_of_nonneg a1]
          repeat' (conv => whnf); first
           | (refine bcase_of (fun hr => ?_) (fun hr => ?_) <;> (try simp only [beq_iff_eq, beq_eq_false_iff_ne, ne_eq] at hr))
           | (apply And.intro; · first | exact Nat.le_of_ble_eq_true rfl | (show indep _ _ = true; kernel_rfl) | decide | exact ⟨a1, by rw [hlen]; omega⟩ | exact ⟨m1, by omega⟩)
           | (apply Exists.intro; apply And.intro; · first | exact rfl | exact (show lget _ _ = some (kE y) by rw [lget_eq, List.getElem?_map, hy]; rfl) | exact (show lget _ _ = some (kE K) by rw [lget_eq, Nat.zero_add, List.getElem?_map, hK]; rfl))
           | fail
          all_goals (conv => whnf)
          · refine VLoop.norm [0, 3, 4, 10, 11, 12, 13] [3, 76] ?_
            repeat' (conv => whnf); first | (apply And.intro; · first | exact pure_k _ | ((repeat' first | exact pure_k _ | exact pure_k1 _ | exact pure_nil | apply pure_app | apply pure_take | apply pure_drop); done)) | fail
            all_goals (conv => whnf)
            exact iha (a, IntKind.i64.wrap (a + 1)) ⟨by omega, by omega, by simp only [hwa, hwa2]; rw [hla, if_pos hr]⟩ (by simp only [hwa]; omega)
          · refine VLoop.norm [0, 3, 4, 10, 11, 12, 13] [3, 76] ?_
            repeat' (conv => whnf); first | (apply And.intro; · first | exact pure_k _ | ((repeat' first | exact pure_k _ | exact pure_k1 _ | exact pure_nil | apply pure_app | apply pure_take | apply pure_drop); done)) | fail
            all_goals (conv => whnf)
            exact iha (la, IntKind.i64.wrap (a + 1)) ⟨by omega, by omega, by simp only [hwa, hwa2]; rw [hla, if_neg hr]⟩ (by simp only [hwa]; omega)
        case refine_2 =>
          have han : a.toNat = l.length := by simp at hr; omega
          rw [han] at a3
          rw [← a3] at vl
          repeat' (conv => whnf); first
           | (refine bcase_of (fun hr => ?_) (fun hr => ?_) <;> skip)
           | (apply And.intro; · first | exact Nat.le_of_ble_eq_true rfl | (show indep _ _ = true; kernel_rfl) | decide)
           | (apply Exists.intro; apply And.intro; · first | exact rfl)
           | fail
          all_goals (conv => whnf)
          refine VLoop.norm [0, 3, 4, 10, 11, 12, 14] [3, 76] ?_
          repeat' (conv => whnf); first | (apply And.intro; · first | exact pure_k _ | ((repeat' first | exact pure_k _ | exact pure_k1 _ | exact pure_nil | apply pure_app | apply pure_take | apply pure_drop); done)) | fail
          all_goals (conv => whnf)
          refine VLoop.inv (fun z : Int × Int => stE 1 l g (S.map kE) S.length m la z.1 z.2) (fun z => 0 ≤ z.2 ∧ z.2 ≤ S.length ∧ z.1 = ((S.take z.2.toNat).countP fun x => decide (x < K) : Nat)) (fun z => S.length - z.2.toNat) (0, 0) ⟨Int.le_refl _, by omega, rfl⟩ rfl ?_
          rintro ⟨c, j⟩ ⟨j1, j2, j3⟩ ihj
          simp only at j1 j2 j3 ihj
          show VLoop cx E _ (stE 1 l g (S.map kE) S.length m la c j) _
          have hc6 : 0 ≤ c ∧ c ≤ 6 := by
            have := List.countP_le_length (p := fun x => decide (x < K)) (l := S.take j.toNat)
            have h2 : (S.take j.toNat).length ≤ S.length := by simp; omega
            omega
          have hwc : IntKind.i64.wrap (c + 1) = c + 1 := wrapI64 (by omega) (by omega)
          refine VLoop.unroll hE mixed ?_
          conv => whnf
          refine bcase_of (fun hr => ?_) (fun hr => ?_)
          case refine_1 =>
            have hjn : j < S.length := by simpa using hr
            have hwj : IntKind.i64.wrap (j + 1) = j + 1 := wrapI64 (by omega) (by omega)
            have hwj2 : (j + 1).toNat = j.toNat + 1 := by omega
            obtain ⟨y, hy⟩ : ∃ z, S[j.toNat]? = some z := ⟨_, List.getElem?_eq_getElem (by omega)⟩
            have ht := take_count S K hy
            repeat' (conv => whnf); first
             | (refine bcase_of (fun hr => ?_) (fun hr => ?_) <;> (try simp only [decide_eq_true_eq, decide_eq_false_iff_not] at hr))
             | (apply And.intro; · first | exact Nat.le_of_ble_eq_true rfl | (show indep _ _ = true; kernel_rfl) | decide | exact ⟨j1, by omega⟩ | exact ⟨m1, by omega⟩)
             | (apply Exists.intro; apply And.intro; · first | exact rfl | exact (show lget _ _ = some (kE y) by rw [lget_eq, Nat.zero_add, List.getElem?_map, hy]; rfl) | exact (show lget _ _ = some (kE K) by rw [lget_eq, Nat.zero_add, List.getElem?_map, hK]; rfl))
             | fail
            all_goals (conv => whnf)
            · refine VLoop.norm [0, 3, 4, 10, 11, 12, 14] [3, 76] ?_
              repeat' (conv => whnf); first | (apply And.intro; · first | exact pure_k _ | ((repeat' first | exact pure_k _ | exact pure_k1 _ | exact pure_nil | apply pure_app | apply pure_take | apply pure_drop); done)) | fail
              all_goals (conv => whnf)
              exact ihj (IntKind.i64.wrap (c + 1), IntKind.i64.wrap (j + 1)) ⟨by omega, by omega, by simp only [hwj, hwj2, hwc]; rw [ht, if_pos hr]; omega⟩ (by simp only [hwj]; omega)
            · refine VLoop.norm [0, 3, 4, 10, 11, 12, 14] [3, 76] ?_
              repeat' (conv => whnf); first | (apply And.intro; · first | exact pure_k _ | ((repeat' first | exact pure_k _ | exact pure_k1 _ | exact pure_nil | apply pure_app | apply pure_take | apply pure_drop); done)) | fail
              all_goals (conv => whnf)
              exact ihj (c, IntKind.i64.wrap (j + 1)) ⟨by omega, by omega, by simp only [hwj, hwj2, hwc]; rw [ht, if_neg hr]; omega⟩ (by simp only [hwj]; omega)
          case refine_2 =>
            have hjn : j.toNat = S.length := by simp at hr; omega
            rw [hjn, List.take_length, ← k2] at j3
            repeat' (conv => whnf); first
             | (refine bcase_of (fun hr => ?_) (fun hr => ?_) <;> (try simp [j3] at hr) <;> try (exfalso; omega))
             | (apply And.intro; · first | exact Nat.le_of_ble_eq_true rfl | (show indep _ _ = true; kernel_rfl) | decide | exact ⟨rk0, by omega⟩ | exact ⟨m1, by omega⟩)
             | (apply Exists.intro; apply And.intro; · first | exact rfl | exact fd | exact vl | exact (show lget _ _ = some (kE K) by rw [lget_eq, Nat.zero_add, List.getElem?_map, hK]; rfl))
             | fail
            all_goals (conv => whnf)
            refine VLoop.norm [0, 3, 4, 10] [3, 76] ?_
            repeat' (conv => whnf); first | (apply And.intro; · first | exact pure_k _ | ((repeat' first | exact pure_k _ | exact pure_k1 _ | exact pure_nil | apply pure_app | apply pure_take | apply pure_drop); done)) | fail
            all_goals (conv => whnf)
            exact ihm (IntKind.i64.wrap (m + 1)) ⟨by omega, by omega⟩ (by omega)
    case refine_1 =>
      have hn : i < l.length := by simp at hr; omega
      have hw : IntKind.i64.wrap (i + 1) = i + 1 := wrapI64 (by omega) (by omega)
      have hw2 : (i + 1).toNat = i.toNat + 1 := by omega
      obtain ⟨x, hx⟩ : ∃ z, l[i.toNat]? = some z := ⟨_, List.getElem?_eq_getElem (by omega)⟩
      repeat' (conv => whnf); first
       | (refine bcase_of (fun hr => ?_) (fun hr => ?_) <;> (try (exfalso; simp at hr; done)))
       | (apply And.intro; · first | exact Nat.le_of_ble_eq_true rfl | (show indep _ _ = true; kernel_rfl) | decide)
       | (apply Exists.intro; apply And.intro; · first | exact rfl)
       | fail
      all_goals (conv => whnf)
      refine VLoop.norm [0, 3, 4, 5, 6, 7] [3, 76] ?_
      repeat' (conv => whnf); first | (apply And.intro; · first | exact pure_k _ | ((repeat' first | exact pure_k _ | exact pure_k1 _ | exact pure_nil | apply pure_app | apply pure_take | apply pure_drop); done)) | fail
      all_goals (conv => whnf)
      refine VLoop.inv (fun z : Bool × Int => stB 1 l g (S.map kE) S.length i z.1 z.2) (fun z => 0 ≤ z.2 ∧ z.2 ≤ S.length ∧ z.1 = decide (x ∈ S.take z.2.toNat)) (fun z => S.length - z.2.toNat) (false, 0) ⟨Int.le_refl _, by simp, by simp⟩ rfl ?_
      rintro ⟨th, m⟩ ⟨m1, m2, m3⟩ ihm
      simp only at m1 m2 m3 ihm
      show VLoop cx E _ (stB 1 l g (S.map kE) S.length i th m) _
      cases th with
      | true =>
        refine VLoop.unroll hE mixed ?_
        conv => whnf
        refine bcase_of (fun hr => ?_) (fun hr => ?_)
        case refine_1 =>
          have hmn : m < S.length := by simpa using hr
          have hwm : IntKind.i64.wrap (m + 1) = m + 1 := wrapI64 (by omega) (by omega)
          have hwm2 : (m + 1).toNat = m.toNat + 1 := by omega
          obtain ⟨y, hy⟩ : ∃ z, S[m.toNat]? = some z := ⟨_, List.getElem?_eq_getElem (by omega)⟩
          have ht := take_any S x hy
          rw [← m3] at ht
          repeat' (conv => whnf); first
           | (refine bcase_of (fun hr => ?_) (fun hr => ?_) <;> skip)
           | (apply And.intro; · first | exact Nat.le_of_ble_eq_true rfl | (show indep _ _ = true; kernel_rfl) | decide | exact ⟨m1, by omega⟩ | exact ⟨g1, by rw [hlen]; omega⟩)
           | (apply Exists.intro; apply And.intro; · first | exact rfl | exact (show lget _ _ = some (kE y) by rw [lget_eq, Nat.zero_add, List.getElem?_map, hy]; rfl) | exact (show lget _ _ = some (kE x) by rw [lget_eq, List.getElem?_map, hx]; rfl))
           | fail
          all_goals (conv => whnf)
          refine VLoop.norm [0, 3, 4, 5, 6, 7] [3, 76] ?_
          repeat' (conv => whnf); first | (apply And.intro; · first | exact pure_k _ | ((repeat' first | exact pure_k _ | exact pure_k1 _ | exact pure_nil | apply pure_app | apply pure_take | apply pure_drop); done)) | fail
          all_goals (conv => whnf)
          exact ihm (true, IntKind.i64.wrap (m + 1)) ⟨by omega, by omega, by simp only [hwm, hwm2]; rw [ht]; rfl⟩ (by simp only [hwm]; omega)
        case refine_2 =>
          have hmn : m.toNat = S.length := by simp at hr; omega
          rw [hmn, List.take_length] at m3
          have hm : x ∈ S := of_decide_eq_true m3.symm
          obtain ⟨f1, f2⟩ := inv.there hx hm
          rw [hi] at f1 f2
          have p1 := put_ok g gl x i f1
          repeat' (conv => whnf); first
           | (refine bcase_of (fun hr => ?_) (fun hr => ?_) <;> (try simp at hr) <;> try (exfalso; omega))
           | (apply And.intro; · first | exact Nat.le_of_ble_eq_true rfl | (show indep _ _ = true; kernel_rfl) | decide | exact ⟨g1, by rw [hlen]; omega⟩)
           | (apply Exists.intro; apply And.intro; · first | exact rfl | exact p1 | exact (show lget _ _ = some (kE x) by rw [lget_eq, List.getElem?_map, hx]; rfl))
           | fail
          all_goals (conv => whnf)
          refine VLoop.norm [0, 3, 4, 5] [3, 76] ?_
          repeat' (conv => whnf); first | (apply And.intro; · first | exact pure_k _ | ((repeat' first | exact pure_k _ | exact pure_k1 _ | exact pure_nil | apply pure_app | apply pure_take | apply pure_drop); done)) | fail
          all_goals (conv => whnf)
          refine ih ⟨1, (lay g x i), S, (S.map kE), S.length, IntKind.i64.wrap (i + 1)⟩ ⟨Nat.le_of_ble_eq_true rfl, by simp only [hw, hw2]; exact f2, ?_, ?_, by simp only [hw]; omega, by simp only [hw]; omega, fun h => (by cases h)⟩ (by simp only [hw]; omega)
          · rfl
          · rfl
      | false =>
        refine VLoop.unroll hE mixed ?_
        conv => whnf
        refine bcase_of (fun hr => ?_) (fun hr => ?_)
        case refine_1 =>
          have hmn : m < S.length := by simpa using hr
          have hwm : IntKind.i64.wrap (m + 1) = m + 1 := wrapI64 (by omega) (by omega)
          have hwm2 : (m + 1).toNat = m.toNat + 1 := by omega
          obtain ⟨y, hy⟩ : ∃ z, S[m.toNat]? = some z := ⟨_, List.getElem?_eq_getElem (by omega)⟩
          have ht := take_any S x hy
          rw [← m3] at ht
          repeat' (conv => whnf); first
           | (refine bcase_of (fun hr => ?_) (fun hr => ?_) <;> skip)
           | (apply And.intro; · first | exact Nat.le_of_ble_eq_true rfl | (show indep _ _ = true; kernel_rfl) | decide | exact ⟨m1, by omega⟩ | exact ⟨g1, by rw [hlen]; omega⟩)
           | (apply Exists.intro; apply And.intro; · first | exact rfl | exact (show lget _ _ = some (kE y) by rw [lget_eq, Nat.zero_add, List.getElem?_map, hy]; rfl) | exact (show lget _ _ = some (kE x) by rw [lget_eq, List.getElem?_map, hx]; rfl))
           | fail
          all_goals (conv => whnf)
          · refine VLoop.norm [0, 3, 4, 5, 6, 7] [3, 76] ?_
            repeat' (conv => whnf); first | (apply And.intro; · first | exact pure_k _ | ((repeat' first | exact pure_k _ | exact pure_k1 _ | exact pure_nil | apply pure_app | apply pure_take | apply pure_drop); done)) | fail
            all_goals (conv => whnf)
            exact ihm (true, IntKind.i64.wrap (m + 1)) ⟨by omega, by omega, by simp only [hwm, hwm2]; rw [ht, hr]; rfl⟩ (by simp only [hwm]; omega)
          · refine VLoop.norm [0, 3, 4, 5, 6, 7] [3, 76] ?_
            repeat' (conv => whnf); first | (apply And.intro; · first | exact pure_k _ | ((repeat' first | exact pure_k _ | exact pure_k1 _ | exact pure_nil | apply pure_app | apply pure_take | apply pure_drop); done)) | fail
            all_goals (conv => whnf)
            exact ihm (false, IntKind.i64.wrap (m + 1)) ⟨by omega, by omega, by simp only [hwm, hwm2]; rw [ht, hr]; rfl⟩ (by simp only [hwm]; omega)
        case refine_2 =>
          have hmn : m.toNat = S.length := by simp at hr; omega
          rw [hmn, List.take_length] at m3
          have hm : ¬ x ∈ S := of_decide_eq_false m3.symm
          by_cases h6 : S.length < 6
          case pos =>
            obtain ⟨f1, f2⟩ := inv.new hx hm (by omega)
            rw [hi] at f1 f2
            have p1 := put_ok g gl x i f1
            repeat' (conv => whnf); first
             | (refine bcase_of (fun hr => ?_) (fun hr => ?_) <;> (try simp at hr) <;> try (exfalso; omega))
             | (apply And.intro; · first | exact Nat.le_of_ble_eq_true rfl | (show indep _ _ = true; kernel_rfl) | decide | exact ⟨g1, by rw [hlen]; omega⟩ | exact one_k1 _ | exact room_k (by first | (simp; done) | (simp; omega)) (by first | omega | (simp; done) | (simp; omega)) (by first | (simp; done) | (simp; omega)) | exact ⟨Nat.le_of_ble_eq_true rfl, Nat.le_of_ble_eq_true rfl⟩)
             | (apply Exists.intro; apply And.intro; · first | exact rfl | exact p1 | exact (show lget _ _ = some (kE x) by rw [lget_eq, List.getElem?_map, hx]; rfl))
             | fail
            all_goals (conv => whnf)
            refine VLoop.norm [0, 3, 4, 5] [3, 76] ?_
            repeat' (conv => whnf); first | (apply And.intro; · first | exact pure_k _ | ((repeat' first | exact pure_k _ | exact pure_k1 _ | exact pure_nil | apply pure_app | apply pure_take | apply pure_drop); done)) | fail
            all_goals (conv => whnf)
            refine ih ⟨1, (lay g x i), (S ++ [x]), (((S.map kE).drop 0).take S.length ++ ([kE x].drop 0).take 1), (S.length + 1), IntKind.i64.wrap (i + 1)⟩ ⟨Nat.le_of_ble_eq_true rfl, by simp only [hw, hw2]; exact f2, ?_, ?_, by simp only [hw]; omega, by simp only [hw]; omega, fun h => (by cases h)⟩ (by simp only [hw]; omega)
            · first | rfl | (simp [tS]; done)
            · first | rfl | (simp [tS]; done)
          case neg =>
            obtain ⟨f1, f2⟩ := inv.full hx hm h6
            rw [hi] at f1
            have p1 := put_full g gl x i f1
            repeat' (conv => whnf); first
             | (refine bcase_of (fun hr => ?_) (fun hr => ?_) <;> (try simp at hr) <;> try (exfalso; omega))
             | (apply And.intro; · first | exact Nat.le_of_ble_eq_true rfl | (show indep _ _ = true; kernel_rfl) | decide | exact ⟨g1, by rw [hlen]; omega⟩)
             | (apply Exists.intro; apply And.intro; · first | exact rfl | exact p1 | exact (show lget _ _ = some (kE x) by rw [lget_eq, List.getElem?_map, hx]; rfl))
             | fail
            all_goals (conv => whnf)
            refine VLoop.norm [0, 3, 4, 5] [3, 76] ?_
            repeat' (conv => whnf); first | (apply And.intro; · first | exact pure_k _ | ((repeat' first | exact pure_k _ | exact pure_k1 _ | exact pure_nil | apply pure_app | apply pure_take | apply pure_drop); done)) | fail
            all_goals (conv => whnf)
            refine ih ⟨1, g, S, (S.map kE), S.length, IntKind.i64.wrap (i + 1)⟩ ⟨Nat.le_of_ble_eq_true rfl, by simp only [hw, hw2]; exact f2, ?_, ?_, by simp only [hw]; omega, by simp only [hw]; omega, fun h => (by cases h)⟩ (by simp only [hw]; omega)
            · rfl
            · rfl
end Go.Proofs.Ytmmenojmldollaa
