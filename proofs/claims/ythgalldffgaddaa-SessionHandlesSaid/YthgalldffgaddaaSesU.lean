/- Chapter 24: what its functions come to (SesU). -/
import Derived.Test.YthgalldffgaddaaSesT
set_option linter.unusedVariables false
set_option linter.unusedSimpArgs false
namespace Go.Proofs.Ythgalldffgaddaa
open Go Go.Vm
set_option maxRecDepth 100000
set_option maxHeartbeats 4000000
set_option linter.unusedSimpArgs false
set_option linter.unusedVariables false
abbrev bytesV (l : List Int) : V := .lst 1 (l.map fun x => [u8V x])
theorem pure_bytes (l : List Int) : PureEs (l.map fun x => [u8V x]) := fun e he v hv => by
  obtain ⟨x, _, rfl⟩ := List.mem_map.1 he
  obtain rfl : v = u8V x := by simpa using hv
  exact .int _ _
abbrev hP (x : Int × Int) : List V := [.int .i64 x.1, .int .i64 x.2]
theorem pure_nil : PureEs [] := fun e he => by cases he
theorem pure_h1 (p t : Int) : PureEs [[.int .i64 p, .int .i64 t]] := fun e he v hv => by
  cases he with
  | head =>
    simp at hv
    rcases hv with rfl | rfl
    · exact .int _ _
    · exact .int _ _
  | tail _ h => cases h
theorem pure_h (O : List (Int × Int)) : PureEs (O.map hP) := fun e he => by
  obtain ⟨x, _, rfl⟩ := List.mem_map.1 he
  exact pure_h1 x.1 x.2 _ (by simp)
theorem pure_app {a b : List (List V)} (h : PureEs a) (h' : PureEs b) : PureEs (a ++ b) := fun e he => by
  rcases List.mem_append.1 he with he | he
  · exact h e he
  · exact h' e he
theorem pure_take {a : List (List V)} (h : PureEs a) (n : Nat) : PureEs (a.take n) := fun e he => h e (List.mem_of_mem_take he)
theorem pure_drop {a : List (List V)} (h : PureEs a) (n : Nat) : PureEs (a.drop n) := fun e he => h e (List.mem_of_mem_drop he)
theorem one_h1 (p t : Int) : allOne [[.int .i64 p, .int .i64 t]] 2 := fun e he => by
  cases he with
  | head => exact ⟨rfl, rfl⟩
  | tail _ h => cases h
theorem one_h (O : List (Int × Int)) : allOne (O.map hP) 2 := fun e he => by
  obtain ⟨x, _, rfl⟩ := List.mem_map.1 he
  exact ⟨rfl, rfl⟩
theorem one_take {a : List (List V)} {k : Nat} (h : allOne a k) (n : Nat) : allOne (a.take n) k := fun e he => h e (List.mem_of_mem_take he)
theorem one_drop {a : List (List V)} {k : Nat} (h : allOne a k) (n : Nat) : allOne (a.drop n) k := fun e he => h e (List.mem_of_mem_drop he)
theorem room_h {n m x : Nat} (h : n ≤ x) (hn : n ≤ 1000) (hm : m ≤ 1000) : 0 + n ≤ x ∧ (false = true → 0 + n = x) ∧ (n + m) * 16 ≤ roomBound ∧ n + m ≤ roomBound := ⟨by omega, (by intro h; cases h), (by unfold roomBound; omega), (by unfold roomBound; omega)⟩
theorem cut_eq {O : List (Int × Int)} {k a c : Nat} (ha : a = k) (hc : c = k + 1) : (((([] : List (List V)).drop 0).take 0 ++ (((O.map hP).drop 0).take a)).drop 0).take (0 + (((O.map hP).drop 0).take a).length) ++ (((O.map hP).drop (0 + c)).take (O.length - c)) = (O.take k ++ O.drop (k + 1)).map hP := by
  subst ha hc
  have e : ∀ X : List (List V), (((([] : List (List V)).drop 0).take 0 ++ X).drop 0).take (0 + X.length) = X := fun X => by simp
  have e2 : ((O.map hP).drop (a + 1)).take (O.length - (a + 1)) = (O.map hP).drop (a + 1) := List.take_of_length_le (by simp)
  rw [e, List.drop_zero, Nat.zero_add, e2, List.map_append, List.map_take, List.map_drop]
structure ZU where
  q : Nat
  s : Ss
  O : List (Int × Int)
  G : List (Int × Int)
  eo : List (List V)
  eg : List (List V)
  no : Nat
  ng : Nat
  i : Int
def stU (q : Nat) (l : List Int) (s : Ss) (eo eg : List (List V)) (no ng : Nat) (i : Int) : St Empty := match q with
  | 0 => mkSt 192 [(0, bytesV l), (3, .ref (25, 1) 0), (4, .nils), (5, .nils), (6, i64V i)] [(24, .box (cellsS s))] []
  | 1 => mkSt 192 [(0, bytesV l), (3, .ref (25, 1) 0), (4, .rsl (96, 1) 2 0 no), (5, .nils), (6, i64V i)] [(24, .box (cellsS s)), (95, .row 2 eo false)] []
  | 2 => mkSt 192 [(0, bytesV l), (3, .ref (25, 1) 0), (4, .rsl (140, 1) 2 0 no), (5, .rsl (130, 1) 2 0 ng), (6, i64V i)] [(24, .box (cellsS s)), (139, .row 2 eo false), (129, .row 2 eg false)] []
  | _ => mkSt 192 [(0, bytesV l), (3, .ref (25, 1) 0), (4, .rsl (96, 1) 2 0 no), (5, .rsl (130, 1) 2 0 ng), (6, i64V i)] [(24, .box (cellsS s)), (95, .row 2 eo false), (129, .row 2 eg false)] []
def stV (q : Nat) (l : List Int) (s : Ss) (eo eg : List (List V)) (no ng : Nat) (P T i m : Int) : St Empty := match q with
  | 0 => mkSt 192 [(0, bytesV l), (3, .ref (25, 1) 0), (4, .nils), (5, .nils), (6, i64V i), (7, .ref (8, 1) 0), (9, i64V m)] [(24, .box (cellsS s)), (7, .box [i64V P, i64V T])] []
  | 1 => mkSt 192 [(0, bytesV l), (3, .ref (25, 1) 0), (4, .rsl (96, 1) 2 0 no), (5, .nils), (6, i64V i), (7, .ref (8, 1) 0), (9, i64V m)] [(24, .box (cellsS s)), (7, .box [i64V P, i64V T]), (95, .row 2 eo false)] []
  | 2 => mkSt 192 [(0, bytesV l), (3, .ref (25, 1) 0), (4, .rsl (140, 1) 2 0 no), (5, .rsl (130, 1) 2 0 ng), (6, i64V i), (7, .ref (8, 1) 0), (9, i64V m)] [(24, .box (cellsS s)), (7, .box [i64V P, i64V T]), (139, .row 2 eo false), (129, .row 2 eg false)] []
  | _ => mkSt 192 [(0, bytesV l), (3, .ref (25, 1) 0), (4, .rsl (96, 1) 2 0 no), (5, .rsl (130, 1) 2 0 ng), (6, i64V i), (7, .ref (8, 1) 0), (9, i64V m)] [(24, .box (cellsS s)), (7, .box [i64V P, i64V T]), (95, .row 2 eo false), (129, .row 2 eg false)] []
def stW (q : Nat) (l : List Int) (s : Ss) (eo eg : List (List V)) (no ng : Nat) (P T i m : Int) : St Empty := match q with
  | 0 => mkSt 192 [(0, bytesV l), (3, .ref (25, 1) 0), (4, .nils), (5, .nils), (6, i64V i), (7, .ref (8, 1) 0), (10, i64V m)] [(24, .box (cellsS s)), (7, .box [i64V P, i64V T])] []
  | 1 => mkSt 192 [(0, bytesV l), (3, .ref (25, 1) 0), (4, .rsl (96, 1) 2 0 no), (5, .nils), (6, i64V i), (7, .ref (8, 1) 0), (10, i64V m)] [(24, .box (cellsS s)), (7, .box [i64V P, i64V T]), (95, .row 2 eo false)] []
  | 2 => mkSt 192 [(0, bytesV l), (3, .ref (25, 1) 0), (4, .rsl (140, 1) 2 0 no), (5, .rsl (130, 1) 2 0 ng), (6, i64V i), (7, .ref (8, 1) 0), (10, i64V m)] [(24, .box (cellsS s)), (7, .box [i64V P, i64V T]), (139, .row 2 eo false), (129, .row 2 eg false)] []
  | _ => mkSt 192 [(0, bytesV l), (3, .ref (25, 1) 0), (4, .rsl (96, 1) 2 0 no), (5, .rsl (130, 1) 2 0 ng), (6, i64V i), (7, .ref (8, 1) 0), (10, i64V m)] [(24, .box (cellsS s)), (7, .box [i64V P, i64V T]), (95, .row 2 eo false), (129, .row 2 eg false)] []
def stX (q : Nat) (l : List Int) (s : Ss) (eo eg : List (List V)) (no ng : Nat) (m : Int) : St Empty := match q with
  | 0 => mkSt 192 [(0, bytesV l), (3, .ref (25, 1) 0), (4, .nils), (5, .nils), (12, i64V m)] [(24, .box (cellsS s))] []
  | 1 => mkSt 192 [(0, bytesV l), (3, .ref (25, 1) 0), (4, .rsl (96, 1) 2 0 no), (5, .nils), (12, i64V m)] [(24, .box (cellsS s)), (95, .row 2 eo false)] []
  | 2 => mkSt 192 [(0, bytesV l), (3, .ref (25, 1) 0), (4, .rsl (140, 1) 2 0 no), (5, .rsl (130, 1) 2 0 ng), (12, i64V m)] [(24, .box (cellsS s)), (139, .row 2 eo false), (129, .row 2 eg false)] []
  | _ => mkSt 192 [(0, bytesV l), (3, .ref (25, 1) 0), (4, .rsl (96, 1) 2 0 no), (5, .rsl (130, 1) 2 0 ng), (12, i64V m)] [(24, .box (cellsS s)), (95, .row 2 eo false), (129, .row 2 eg false)] []
def stY (q : Nat) (l : List Int) (s : Ss) (eo eg : List (List V)) (no ng : Nat) (m : Int) : St Empty := match q with
  | 0 => mkSt 192 [(0, bytesV l), (3, .ref (25, 1) 0), (4, .nils), (5, .nils), (17, i64V m)] [(24, .box (cellsS s))] []
  | 1 => mkSt 192 [(0, bytesV l), (3, .ref (25, 1) 0), (4, .rsl (96, 1) 2 0 no), (5, .nils), (17, i64V m)] [(24, .box (cellsS s)), (95, .row 2 eo false)] []
  | 2 => mkSt 192 [(0, bytesV l), (3, .ref (25, 1) 0), (4, .rsl (140, 1) 2 0 no), (5, .rsl (130, 1) 2 0 ng), (17, i64V m)] [(24, .box (cellsS s)), (139, .row 2 eo false), (129, .row 2 eg false)] []
  | _ => mkSt 192 [(0, bytesV l), (3, .ref (25, 1) 0), (4, .rsl (96, 1) 2 0 no), (5, .rsl (130, 1) 2 0 ng), (17, i64V m)] [(24, .box (cellsS s)), (95, .row 2 eo false), (129, .row 2 eg false)] []
def InU (l : List Int) (z : ZU) : Prop := z.q ≤ 3 ∧ Inv z.s z.O z.G z.i ∧ z.eo = z.O.map hP ∧ z.eg = z.G.map hP ∧ z.no = z.O.length ∧ z.ng = z.G.length ∧ (z.G.length : Int) ≤ z.i ∧ 0 ≤ z.i ∧ z.i ≤ l.length ∧ (z.q = 0 → z.O = []) ∧ (z.q ≤ 1 → z.G = [])
theorem handles_ok (l : List Int) (hl : ∀ z ∈ l, 0 ≤ z ∧ z ≤ 255) : PTriple Try.prog gv 6 [bytesV l] (.bool true) := by
  have hlen : (l.map fun x => [u8V x]).length = l.length := by simp
  refine PTriple.of_body (C := cx) Try.func6 rfl (by kernel_rfl) mixed fun E hE => ?_
  repeat' (conv => whnf); first
   | (refine bcase_of (fun hr => ?_) (fun hr => ?_) <;> (try have hl3 : l.length ≤ 120 := by simp at hr; omega) <;> try (exfalso; simp at hr; done))
   | (apply And.intro; · first | exact Nat.le_of_ble_eq_true rfl | decide | (show indep _ _ = true; kernel_rfl))
   | (apply Exists.intro; apply And.intro; · first | exact rfl | exact wakes_ok)
   | (apply Exists.intro; apply Exists.intro; apply Exists.intro; apply And.intro; · first | (apply ATriple.call (new_ok 2 5 (by decide) (by decide)) <;> rfl))
   | fail
  all_goals (conv => whnf)
  · rfl
  refine VLoop.norm [0, 3, 4, 5, 6] [24] ?_
  repeat' (conv => whnf); first | (apply And.intro; · first | exact pure_bytes l | ((repeat' first | exact pure_h _ | exact pure_h1 _ _ | exact pure_nil | apply pure_app | apply pure_take | apply pure_drop); done)) | fail
  all_goals (conv => whnf)
  refine VLoop.inv (fun z : ZU => stU z.q l z.s z.eo z.eg z.no z.ng z.i) (InU l) (fun z => l.length - z.i.toNat) ⟨0, ⟨2, 5, 0, p0, p0, p0, p0, p0, p0⟩, [], [], [], [], 0, 0, 0⟩ ?_ rfl ?_
  · refine ⟨by decide, ⟨fun h hh => (by cases hh), List.Pairwise.nil, fun h hh => (by cases hh), fun p hp => ?_, rfl⟩, rfl, rfl, rfl, rfl, Int.le_refl _, Int.le_refl _, by simp, fun _ => rfl, fun _ => rfl⟩
    rcases hp with rfl | rfl | rfl | rfl | rfl | rfl <;> exact ⟨by decide, by decide⟩
  rintro ⟨q, s, O, G, eo, eg, no, ng, i⟩ ⟨hq, inv, r1, r2, r3, r4, g0, g1, g2, g3, g4⟩ ih
  simp only at hq inv r1 r2 r3 r4 g0 g1 g2 g3 g4 ih
  subst r1 r2 r3 r4
  have hO6 : O.length ≤ 6 := by have h6 : cnt s ≤ 6 := (lenTo_in s.a s.b s.c s.d s.e s.f 6).2; have := inv.c; omega
  have hOe : (O.map hP).length = O.length := by simp
  have hGe : (G.map hP).length = G.length := by simp
  have tG : (G.map hP).take G.length = G.map hP := List.take_of_length_le (by simp)
  have tO : (O.map hP).take O.length = O.map hP := List.take_of_length_le (by simp)
  have hq4 : q = 0 ∨ q = 1 ∨ q = 2 ∨ q = 3 := by omega
  rcases hq4 with rfl | rfl | rfl | rfl
  · obtain rfl := g3 rfl
    obtain rfl := g4 (Nat.le_of_ble_eq_true rfl)
    show VLoop cx E _ (stU 0 l s [] [] 0 0 i) _
    refine VLoop.unroll hE mixed ?_
    conv => whnf
    refine bcase_of (fun hr => ?_) (fun hr => ?_)
    case refine_2 =>
      repeat' (conv => whnf); first
       | (refine bcase_of (fun hr => ?_) (fun hr => ?_) <;> try (exfalso; simp at hr; done))
       | (apply And.intro; · first | exact Nat.le_of_ble_eq_true rfl | decide | (show indep _ _ = true; kernel_rfl))
       | (apply Exists.intro; apply And.intro; · first | exact rfl)
       | fail
      all_goals (conv => whnf)
      refine VLoop.unroll hE mixed ?_
      repeat' (conv => whnf); first
       | (refine bcase_of (fun hr => ?_) (fun hr => ?_) <;> try (exfalso; simp at hr; done))
       | (apply And.intro; · first | exact Nat.le_of_ble_eq_true rfl | decide | (show indep _ _ = true; kernel_rfl))
       | (apply Exists.intro; apply And.intro; · first | exact rfl)
       | fail
      all_goals (conv => whnf)
      refine VLoop.unroll hE mixed ?_
      repeat' (conv => whnf); first
       | (refine bcase_of (fun hr => ?_) (fun hr => ?_) <;> try (exfalso; simp at hr; done))
       | (apply And.intro; · first | exact Nat.le_of_ble_eq_true rfl | decide | (show indep _ _ = true; kernel_rfl))
       | (apply Exists.intro; apply And.intro; · first | exact rfl | exact wakes_ok)
       | fail
      all_goals (conv => whnf)
      all_goals rfl
    case refine_1 =>
      have hn : i < l.length := by simp at hr; omega
      have hw : IntKind.i64.wrap (i + 1) = i + 1 := wrapI64 (by omega) (by omega)
      obtain ⟨b, hx⟩ : ∃ z, l[i.toNat]? = some z := ⟨_, List.getElem?_eq_getElem (by omega)⟩
      have hb8 := hl _ (List.mem_of_getElem? hx)
      by_cases hb : b < 150
      case pos =>
        by_cases h6 : (0 : Int) < 6
        case pos =>
          obtain ⟨f1, f2, f3, f4⟩ := inv.opens (v := i) g1 (by omega) h6
          obtain ⟨s2, hs2⟩ : ∃ z, z = openS s i := ⟨_, rfl⟩
          have c1 := open_ok s i
          rw [← hs2, f1] at c1
          rw [← hs2] at f4
          generalize openP s i = P at c1 f2 f3 f4
          generalize openT s i = T at c1 f2 f3 f4
          have hc : lenTo s2.a s2.b s2.c s2.d s2.e s2.f 6 = 0 + 1 := by have := f4.c; simpa [cnt] using this
          repeat' (conv => whnf); first
           | (refine bcase_of (fun hr => ?_) (fun hr => ?_) <;> (try simp [hb, h6] at hr) <;> try omega)
           | (apply And.intro; · first | exact Nat.le_of_ble_eq_true rfl | decide | exact ⟨g1, by rw [hlen]; omega⟩ | (show indep _ _ = true; kernel_rfl))
           | (apply Exists.intro; apply And.intro; · first | exact rfl | exact (show lget _ _ = some [u8V b] by rw [lget_eq, List.getElem?_map, hx]; rfl))
           | (apply Exists.intro; apply Exists.intro; apply Exists.intro; apply And.intro; · first | (apply ATriple.call (c1) <;> rfl))
           | fail
          all_goals (conv => whnf)
          refine VLoop.unroll hE mixed ?_
          repeat' (conv => whnf); first
           | (refine bcase_of (fun hr => ?_) (fun hr => ?_) <;> try (exfalso; simp at hr; done))
           | (apply And.intro; · first | exact Nat.le_of_ble_eq_true rfl | decide | (show indep _ _ = true; kernel_rfl))
           | (apply Exists.intro; apply And.intro; · first | exact rfl)
           | fail
          all_goals (conv => whnf)
          refine VLoop.unroll hE mixed ?_
          repeat' (conv => whnf); first
           | (refine bcase_of (fun hr => ?_) (fun hr => ?_) <;> (try simp [hc] at hr) <;> try omega)
           | (apply And.intro; · first | exact Nat.le_of_ble_eq_true rfl | decide | exact one_h1 _ _ | exact room_h (by simp) (by omega) (by simp) | exact ⟨Nat.le_of_ble_eq_true rfl, Nat.le_of_ble_eq_true rfl⟩ | exact ⟨by omega, by omega⟩ | (show indep _ _ = true; kernel_rfl))
           | (apply Exists.intro; apply And.intro; · first | exact rfl)
           | (apply Exists.intro; apply Exists.intro; apply Exists.intro; apply And.intro; · first | (apply ATriple.call (len_ok s2.k s2.l s2.n s2.a s2.b s2.c s2.d s2.e s2.f) <;> rfl))
           | fail
          all_goals (conv => whnf)
          refine VLoop.norm [0, 3, 4, 5, 6] [24, 95] ?_
          repeat' (conv => whnf); first | (apply And.intro; · first | exact pure_bytes l | ((repeat' first | exact pure_h _ | exact pure_h1 _ _ | exact pure_nil | apply pure_app | apply pure_take | apply pure_drop); done)) | fail
          all_goals (conv => whnf)
          refine ih ⟨1, s2, [(P, T)], [], (([hP (P, T)].drop 0).take 1), [], 1, 0, IntKind.i64.wrap (i + 1)⟩ ⟨Nat.le_of_ble_eq_true rfl, by simp only [hw]; exact f4, ?_, ?_, ?_, ?_, by simp [hw] at g0 ⊢; omega, by simp only [hw]; omega, by simp only [hw]; omega, fun h => (by cases h), fun _ => rfl⟩ (by simp only [hw]; omega)
          · first | rfl | simp [tO]
          · first | rfl | simp [tO]
          · first | rfl | simp [tO]
          · first | rfl | simp [tO]
        case neg => exact absurd (by decide) h6
      case neg =>
        by_cases hO : 0 = 0
        case pos =>
          have hc : lenTo s.a s.b s.c s.d s.e s.f 6 = 0 := inv.c
          repeat' (conv => whnf); first
           | (refine bcase_of (fun hr => ?_) (fun hr => ?_) <;> (try simp [hb, hc] at hr) <;> try omega)
           | (apply And.intro; · first | exact Nat.le_of_ble_eq_true rfl | decide | exact ⟨g1, by rw [hlen]; omega⟩ | (show indep _ _ = true; kernel_rfl))
           | (apply Exists.intro; apply And.intro; · first | exact rfl | exact (show lget _ _ = some [u8V b] by rw [lget_eq, List.getElem?_map, hx]; rfl))
           | (apply Exists.intro; apply Exists.intro; apply Exists.intro; apply And.intro; · first | (apply ATriple.call (len_ok s.k s.l s.n s.a s.b s.c s.d s.e s.f) <;> rfl))
           | fail
          all_goals (conv => whnf)
          refine VLoop.norm [0, 3, 4, 5, 6] [24] ?_
          repeat' (conv => whnf); first | (apply And.intro; · first | exact pure_bytes l | ((repeat' first | exact pure_h _ | exact pure_h1 _ _ | exact pure_nil | apply pure_app | apply pure_take | apply pure_drop); done)) | fail
          all_goals (conv => whnf)
          refine ih ⟨0, s, [], [], [], [], 0, 0, IntKind.i64.wrap (i + 1)⟩ ⟨Nat.le_of_ble_eq_true rfl, by simp only [hw]; exact { inv with t := fun p hp => ⟨(inv.t p hp).1, by have := (inv.t p hp).2; omega⟩ }, ?_, ?_, ?_, ?_, by simp [hw] at g0 ⊢; omega, by simp only [hw]; omega, by simp only [hw]; omega, fun _ => rfl, fun _ => rfl⟩ (by simp only [hw]; omega)
          · first | rfl | simp
          · first | rfl | simp
          · first | rfl | simp
          · first | rfl | simp
        case neg => exact absurd rfl hO
  · obtain rfl := g4 (Nat.le_of_ble_eq_true rfl)
    show VLoop cx E _ (stU 1 l s (O.map hP) [] O.length 0 i) _
    refine VLoop.unroll hE mixed ?_
    conv => whnf
    refine bcase_of (fun hr => ?_) (fun hr => ?_)
    case refine_2 =>
      repeat' (conv => whnf); first
       | (refine bcase_of (fun hr => ?_) (fun hr => ?_) <;> try (exfalso; simp at hr; done))
       | (apply And.intro; · first | exact Nat.le_of_ble_eq_true rfl | decide | (show indep _ _ = true; kernel_rfl))
       | (apply Exists.intro; apply And.intro; · first | exact rfl)
       | fail
      all_goals (conv => whnf)
      refine VLoop.unroll hE mixed ?_
      repeat' (conv => whnf); first
       | (refine bcase_of (fun hr => ?_) (fun hr => ?_) <;> try (exfalso; simp at hr; done))
       | (apply And.intro; · first | exact Nat.le_of_ble_eq_true rfl | decide | (show indep _ _ = true; kernel_rfl))
       | (apply Exists.intro; apply And.intro; · first | exact rfl)
       | fail
      all_goals (conv => whnf)
      refine VLoop.norm [0, 3, 4, 5, 17] [24, 95] ?_
      repeat' (conv => whnf); first | (apply And.intro; · first | exact pure_bytes l | ((repeat' first | exact pure_h _ | exact pure_h1 _ _ | exact pure_nil | apply pure_app | apply pure_take | apply pure_drop); done)) | fail
      all_goals (conv => whnf)
      refine VLoop.inv (fun m : Int => stY 1 l s (O.map hP) [] O.length 0 m) (fun m => 0 ≤ m ∧ m ≤ O.length) (fun m => O.length - m.toNat) 0 ⟨Int.le_refl _, by omega⟩ rfl ?_
      intro m hm ihm
      show VLoop cx E _ (stY 1 l s (O.map hP) [] O.length 0 m) _
      refine VLoop.unroll hE mixed ?_
      conv => whnf
      refine bcase_of (fun hr => ?_) (fun hr => ?_)
      case refine_1 =>
        have hmn : m < O.length := by simpa using hr
        have hwm : IntKind.i64.wrap (m + 1) = m + 1 := wrapI64 (by omega) (by omega)
        obtain ⟨y, hy⟩ : ∃ z, O[m.toNat]? = some z := ⟨_, List.getElem?_eq_getElem (by omega)⟩
        have hym := List.mem_of_getElem? hy
        have c1 := look_ok s y.1 y.2
        rw [inv.there hym] at c1
        repeat' (conv => whnf); first
         | (refine bcase_of (fun hr => ?_) (fun hr => ?_) <;> (try simp at hr))
         | (apply And.intro; · first | exact Nat.le_of_ble_eq_true rfl | decide | exact ⟨hm.1, by omega⟩ | (show indep _ _ = true; kernel_rfl))
         | (apply Exists.intro; apply And.intro; · first | exact rfl | exact (show lget _ _ = some (hP y) by rw [lget_eq, Nat.zero_add, List.getElem?_map, hy]; rfl))
         | (apply Exists.intro; apply Exists.intro; apply Exists.intro; apply And.intro; · first | (apply ATriple.call (c1) <;> rfl))
         | fail
        all_goals (conv => whnf)
        refine VLoop.norm [0, 3, 4, 5, 17] [24, 95] ?_
        repeat' (conv => whnf); first | (apply And.intro; · first | exact pure_bytes l | ((repeat' first | exact pure_h _ | exact pure_h1 _ _ | exact pure_nil | apply pure_app | apply pure_take | apply pure_drop); done)) | fail
        all_goals (conv => whnf)
        exact ihm (IntKind.i64.wrap (m + 1)) ⟨by omega, by omega⟩ (by omega)
      case refine_2 =>
        repeat' (conv => whnf); first
         | (refine bcase_of (fun hr => ?_) (fun hr => ?_) <;> try (exfalso; simp at hr; done))
         | (apply And.intro; · first | exact Nat.le_of_ble_eq_true rfl | decide | (show indep _ _ = true; kernel_rfl))
         | (apply Exists.intro; apply And.intro; · first | exact rfl | exact wakes_ok)
         | fail
        all_goals (conv => whnf)
        all_goals rfl
    case refine_1 =>
      have hn : i < l.length := by simp at hr; omega
      have hw : IntKind.i64.wrap (i + 1) = i + 1 := wrapI64 (by omega) (by omega)
      obtain ⟨b, hx⟩ : ∃ z, l[i.toNat]? = some z := ⟨_, List.getElem?_eq_getElem (by omega)⟩
      have hb8 := hl _ (List.mem_of_getElem? hx)
      by_cases hb : b < 150
      case pos =>
        by_cases h6 : (O.length : Int) < 6
        case pos =>
          obtain ⟨f1, f2, f3, f4⟩ := inv.opens (v := i) g1 (by omega) h6
          obtain ⟨s2, hs2⟩ : ∃ z, z = openS s i := ⟨_, rfl⟩
          have c1 := open_ok s i
          rw [← hs2, f1] at c1
          rw [← hs2] at f4
          generalize openP s i = P at c1 f2 f3 f4
          generalize openT s i = T at c1 f2 f3 f4
          have hc : lenTo s2.a s2.b s2.c s2.d s2.e s2.f 6 = O.length + 1 := by have := f4.c; simpa [cnt] using this
          repeat' (conv => whnf); first
           | (refine bcase_of (fun hr => ?_) (fun hr => ?_) <;> (try simp [hb, h6] at hr) <;> try omega)
           | (apply And.intro; · first | exact Nat.le_of_ble_eq_true rfl | decide | exact ⟨g1, by rw [hlen]; omega⟩ | (show indep _ _ = true; kernel_rfl))
           | (apply Exists.intro; apply And.intro; · first | exact rfl | exact (show lget _ _ = some [u8V b] by rw [lget_eq, List.getElem?_map, hx]; rfl))
           | (apply Exists.intro; apply Exists.intro; apply Exists.intro; apply And.intro; · first | (apply ATriple.call (c1) <;> rfl))
           | fail
          all_goals (conv => whnf)
          refine VLoop.norm [0, 3, 4, 5, 6, 7, 9] [24, 95, 7] ?_
          repeat' (conv => whnf); first | (apply And.intro; · first | exact pure_bytes l | ((repeat' first | exact pure_h _ | exact pure_h1 _ _ | exact pure_nil | apply pure_app | apply pure_take | apply pure_drop); done)) | fail
          all_goals (conv => whnf)
          refine VLoop.inv (fun m : Int => stV 1 l s2 (O.map hP) [] O.length 0 P T i m) (fun m => 0 ≤ m ∧ m ≤ O.length) (fun m => O.length - m.toNat) 0 ⟨Int.le_refl _, by omega⟩ rfl ?_
          intro m hm ihm
          show VLoop cx E _ (stV 1 l s2 (O.map hP) [] O.length 0 P T i m) _
          refine VLoop.unroll hE mixed ?_
          conv => whnf
          refine bcase_of (fun hr => ?_) (fun hr => ?_)
          case refine_1 =>
            have hmn : m < O.length := by simpa using hr
            have hwm : IntKind.i64.wrap (m + 1) = m + 1 := wrapI64 (by omega) (by omega)
            obtain ⟨y, hy⟩ : ∃ z, O[m.toNat]? = some z := ⟨_, List.getElem?_eq_getElem (by omega)⟩
            have hym := List.mem_of_getElem? hy
            have h2 := f2 y hym
            repeat' (conv => whnf); first
             | (refine bcase_of (fun hr => ?_) (fun hr => ?_) <;> (try simp [h2] at hr) <;> try omega)
             | (apply And.intro; · first | exact Nat.le_of_ble_eq_true rfl | decide | exact ⟨hm.1, by omega⟩ | (show indep _ _ = true; kernel_rfl))
             | (apply Exists.intro; apply And.intro; · first | exact rfl | exact (show lget _ _ = some (hP y) by rw [lget_eq, Nat.zero_add, List.getElem?_map, hy]; rfl))
             | fail
            all_goals (conv => whnf)
            refine VLoop.norm [0, 3, 4, 5, 6, 7, 9] [24, 95, 7] ?_
            repeat' (conv => whnf); first | (apply And.intro; · first | exact pure_bytes l | ((repeat' first | exact pure_h _ | exact pure_h1 _ _ | exact pure_nil | apply pure_app | apply pure_take | apply pure_drop); done)) | fail
            all_goals (conv => whnf)
            exact ihm (IntKind.i64.wrap (m + 1)) ⟨by omega, by omega⟩ (by omega)
          case refine_2 =>
            repeat' (conv => whnf); first
             | (refine bcase_of (fun hr => ?_) (fun hr => ?_) <;> try (exfalso; simp at hr; done))
             | (apply And.intro; · first | exact Nat.le_of_ble_eq_true rfl | decide | (show indep _ _ = true; kernel_rfl))
             | (apply Exists.intro; apply And.intro; · first | exact rfl)
             | fail
            all_goals (conv => whnf)
            refine VLoop.unroll hE mixed ?_
            repeat' (conv => whnf); first
             | (refine bcase_of (fun hr => ?_) (fun hr => ?_) <;> (try simp [hc] at hr) <;> try omega)
             | (apply And.intro; · first | exact Nat.le_of_ble_eq_true rfl | decide | exact one_h1 _ _ | exact room_h (by simp) (by omega) (by simp) | exact ⟨Nat.le_of_ble_eq_true rfl, Nat.le_of_ble_eq_true rfl⟩ | exact ⟨by omega, by omega⟩ | (show indep _ _ = true; kernel_rfl))
             | (apply Exists.intro; apply And.intro; · first | exact rfl)
             | (apply Exists.intro; apply Exists.intro; apply Exists.intro; apply And.intro; · first | (apply ATriple.call (len_ok s2.k s2.l s2.n s2.a s2.b s2.c s2.d s2.e s2.f) <;> rfl))
             | fail
            all_goals (conv => whnf)
            refine VLoop.norm [0, 3, 4, 5, 6] [24, 95] ?_
            repeat' (conv => whnf); first | (apply And.intro; · first | exact pure_bytes l | ((repeat' first | exact pure_h _ | exact pure_h1 _ _ | exact pure_nil | apply pure_app | apply pure_take | apply pure_drop); done)) | fail
            all_goals (conv => whnf)
            refine ih ⟨1, s2, (O ++ [(P, T)]), [], (((O.map hP).drop 0).take O.length ++ ([hP (P, T)].drop 0).take 1), [], (O.length + 1), 0, IntKind.i64.wrap (i + 1)⟩ ⟨Nat.le_of_ble_eq_true rfl, by simp only [hw]; exact f4, ?_, ?_, ?_, ?_, by simp [hw] at g0 ⊢; omega, by simp only [hw]; omega, by simp only [hw]; omega, fun h => (by cases h), fun _ => rfl⟩ (by simp only [hw]; omega)
            · first | rfl | simp [tO]
            · first | rfl | simp [tO]
            · first | rfl | simp [tO]
            · first | rfl | simp [tO]
        case neg =>
          obtain ⟨f1, f2⟩ := inv.full (v := i) g1 h6
          have c1 := open_ok s i
          rw [f1, f2] at c1
          generalize openP s i = P at c1
          generalize openT s i = T at c1
          repeat' (conv => whnf); first
           | (refine bcase_of (fun hr => ?_) (fun hr => ?_) <;> (try simp [hb, h6] at hr) <;> try omega)
           | (apply And.intro; · first | exact Nat.le_of_ble_eq_true rfl | decide | exact ⟨g1, by rw [hlen]; omega⟩ | (show indep _ _ = true; kernel_rfl))
           | (apply Exists.intro; apply And.intro; · first | exact rfl | exact (show lget _ _ = some [u8V b] by rw [lget_eq, List.getElem?_map, hx]; rfl))
           | (apply Exists.intro; apply Exists.intro; apply Exists.intro; apply And.intro; · first | (apply ATriple.call (c1) <;> rfl))
           | fail
          all_goals (conv => whnf)
          refine VLoop.norm [0, 3, 4, 5, 6] [24, 95] ?_
          repeat' (conv => whnf); first | (apply And.intro; · first | exact pure_bytes l | ((repeat' first | exact pure_h _ | exact pure_h1 _ _ | exact pure_nil | apply pure_app | apply pure_take | apply pure_drop); done)) | fail
          all_goals (conv => whnf)
          refine ih ⟨1, s, O, [], (O.map hP), [], O.length, 0, IntKind.i64.wrap (i + 1)⟩ ⟨Nat.le_of_ble_eq_true rfl, by simp only [hw]; exact { inv with t := fun p hp => ⟨(inv.t p hp).1, by have := (inv.t p hp).2; omega⟩ }, ?_, ?_, ?_, ?_, by simp [hw] at g0 ⊢; omega, by simp only [hw]; omega, by simp only [hw]; omega, fun h => (by cases h), fun _ => rfl⟩ (by simp only [hw]; omega)
          · first | rfl | simp
          · first | rfl | simp
          · first | rfl | simp
          · first | rfl | simp
      case neg =>
        by_cases hO : O.length = 0
        case pos =>
          have hc : lenTo s.a s.b s.c s.d s.e s.f 6 = O.length := inv.c
          repeat' (conv => whnf); first
           | (refine bcase_of (fun hr => ?_) (fun hr => ?_) <;> (try simp [hb, hc, hO] at hr) <;> try omega)
           | (apply And.intro; · first | exact Nat.le_of_ble_eq_true rfl | decide | exact ⟨g1, by rw [hlen]; omega⟩ | (show indep _ _ = true; kernel_rfl))
           | (apply Exists.intro; apply And.intro; · first | exact rfl | exact (show lget _ _ = some [u8V b] by rw [lget_eq, List.getElem?_map, hx]; rfl))
           | (apply Exists.intro; apply Exists.intro; apply Exists.intro; apply And.intro; · first | (apply ATriple.call (len_ok s.k s.l s.n s.a s.b s.c s.d s.e s.f) <;> rfl))
           | fail
          all_goals (conv => whnf)
          refine VLoop.norm [0, 3, 4, 5, 6] [24, 95] ?_
          repeat' (conv => whnf); first | (apply And.intro; · first | exact pure_bytes l | ((repeat' first | exact pure_h _ | exact pure_h1 _ _ | exact pure_nil | apply pure_app | apply pure_take | apply pure_drop); done)) | fail
          all_goals (conv => whnf)
          refine ih ⟨1, s, O, [], (O.map hP), [], O.length, 0, IntKind.i64.wrap (i + 1)⟩ ⟨Nat.le_of_ble_eq_true rfl, by simp only [hw]; exact { inv with t := fun p hp => ⟨(inv.t p hp).1, by have := (inv.t p hp).2; omega⟩ }, ?_, ?_, ?_, ?_, by simp [hw] at g0 ⊢; omega, by simp only [hw]; omega, by simp only [hw]; omega, fun h => (by cases h), fun _ => rfl⟩ (by simp only [hw]; omega)
          · first | rfl | simp
          · first | rfl | simp
          · first | rfl | simp
          · first | rfl | simp
        case neg =>
          have hwb : IntKind.i64.wrap b = b := wrapI64 (by omega) (by omega)
          obtain ⟨k, hk⟩ : ∃ k : Nat, (IntKind.i64.wrap b).tmod (O.length : Int) = (k : Int) := ⟨((IntKind.i64.wrap b).tmod (O.length : Int)).toNat, (Int.toNat_of_nonneg (Int.tmod_nonneg _ (by omega))).symm⟩
          have hkl : k < O.length := by have h1 := Int.tmod_lt_of_pos (IntKind.i64.wrap b) (show (0 : Int) < O.length by omega); omega
          have hwk : IntKind.i64.wrap ((k : Int) + 1) = k + 1 := wrapI64 (by omega) (by omega)
          obtain ⟨y, hy⟩ : ∃ z, O[k]? = some z := ⟨_, List.getElem?_eq_getElem hkl⟩
          obtain ⟨f1, f2, f3, f4⟩ := inv.closes hy
          have c1 := close_ok s y.1 y.2
          have c2 := close_ok (closeS s y.1 y.2) y.1 y.2
          rw [f1] at c1
          rw [f2, f3] at c2
          obtain ⟨s2, hs2⟩ : ∃ z, z = closeS s y.1 y.2 := ⟨_, rfl⟩
          rw [← hs2] at c1 c2 f4
          have hc : lenTo s2.a s2.b s2.c s2.d s2.e s2.f 6 = (O.take k ++ O.drop (k + 1)).length := f4.c
          repeat' (conv => whnf); first
           | (refine bcase_of (fun hr => ?_) (fun hr => ?_) <;> (try simp [hb, hc, hk, hwk] at hr) <;> (try omega) <;> try exact absurd (by rw [hr]; rfl) hO)
           | (apply And.intro; · first | exact Nat.le_of_ble_eq_true rfl | decide | exact ⟨g1, by rw [hlen]; omega⟩ | exact ⟨by rw [hk]; omega, by rw [hk]; omega⟩ | exact ⟨by rw [hk, hwk]; omega, by rw [hk, hwk]; omega⟩ | exact one_h1 _ _ | exact one_take (one_drop (one_h _) _) _ | exact room_h (by first | (simp; done) | (simp; omega)) (by first | omega | (simp; omega)) (by first | (simp; done) | (simp; omega)) | exact ⟨Nat.le_of_ble_eq_true rfl, Nat.le_of_ble_eq_true rfl⟩ | exact (by omega : (O.length : Int) ≠ 0) | (simp only [hk, hwk, List.length_map]; omega) | (simp; omega) | (show indep _ _ = true; kernel_rfl))
           | (apply Exists.intro; apply And.intro; · first | exact rfl | exact (show lget _ _ = some [u8V b] by rw [lget_eq, List.getElem?_map, hx]; rfl) | exact (show lget _ _ = some (hP y) by rw [hk, lget_eq, Nat.zero_add, Int.toNat_natCast, List.getElem?_map, hy]; rfl))
           | (apply Exists.intro; apply Exists.intro; apply Exists.intro; apply And.intro; · first | (apply ATriple.call (c1) <;> rfl) | (apply ATriple.call (c2) <;> rfl) | (apply ATriple.call (len_ok s2.k s2.l s2.n s2.a s2.b s2.c s2.d s2.e s2.f) <;> rfl))
           | fail
          all_goals (conv => whnf)
          refine VLoop.norm [0, 3, 4, 5, 6] [24, 139, 129] ?_
          repeat' (conv => whnf); first | (apply And.intro; · first | exact pure_bytes l | ((repeat' first | exact pure_h _ | exact pure_h1 _ _ | exact pure_nil | apply pure_app | apply pure_take | apply pure_drop); done)) | fail
          all_goals (conv => whnf)
          refine ih ⟨2, s2, (O.take k ++ O.drop (k + 1)), [y], ((((([] : List (List V)).drop 0).take 0 ++ (((O.map hP).drop 0).take ((IntKind.i64.wrap b).tmod (O.length : Int)).toNat)).drop 0).take (0 + (((O.map hP).drop 0).take ((IntKind.i64.wrap b).tmod (O.length : Int)).toNat).length) ++ (((O.map hP).drop (0 + (IntKind.i64.wrap ((IntKind.i64.wrap b).tmod (O.length : Int) + 1)).toNat)).take (O.length - (IntKind.i64.wrap ((IntKind.i64.wrap b).tmod (O.length : Int) + 1)).toNat))), (([hP y].drop 0).take 1), (0 + (((O.map hP).drop 0).take ((IntKind.i64.wrap b).tmod (O.length : Int)).toNat).length + (((O.map hP).drop (0 + (IntKind.i64.wrap ((IntKind.i64.wrap b).tmod (O.length : Int) + 1)).toNat)).take (O.length - (IntKind.i64.wrap ((IntKind.i64.wrap b).tmod (O.length : Int) + 1)).toNat)).length), 1, IntKind.i64.wrap (i + 1)⟩ ⟨Nat.le_of_ble_eq_true rfl, by simp only [hw]; exact { f4 with t := fun p hp => ⟨(f4.t p hp).1, by have := (f4.t p hp).2; omega⟩ }, ?_, ?_, ?_, ?_, by simp [hw] at g0 ⊢; omega, by simp only [hw]; omega, by simp only [hw]; omega, fun h => (by cases h), fun h => absurd h (by simp)⟩ (by simp only [hw]; omega)
          · exact cut_eq (by rw [hk]; rfl) (by rw [hk, hwk]; rfl)
          · first | rfl | (simp [tO, tG, hk, hwk]; done) | (simp [tO, tG, hk, hwk]; omega)
          · first | rfl | (simp [tO, tG, hk, hwk]; done) | (simp [tO, tG, hk, hwk]; omega)
          · first | rfl | (simp [tO, tG, hk, hwk]; done) | (simp [tO, tG, hk, hwk]; omega)
  · show VLoop cx E _ (stU 2 l s (O.map hP) (G.map hP) O.length G.length i) _
    refine VLoop.unroll hE mixed ?_
    conv => whnf
    refine bcase_of (fun hr => ?_) (fun hr => ?_)
    case refine_2 =>
      repeat' (conv => whnf); first
       | (refine bcase_of (fun hr => ?_) (fun hr => ?_) <;> try (exfalso; simp at hr; done))
       | (apply And.intro; · first | exact Nat.le_of_ble_eq_true rfl | decide | (show indep _ _ = true; kernel_rfl))
       | (apply Exists.intro; apply And.intro; · first | exact rfl)
       | fail
      all_goals (conv => whnf)
      refine VLoop.norm [0, 3, 4, 5, 12] [24, 139, 129] ?_
      repeat' (conv => whnf); first | (apply And.intro; · first | exact pure_bytes l | ((repeat' first | exact pure_h _ | exact pure_h1 _ _ | exact pure_nil | apply pure_app | apply pure_take | apply pure_drop); done)) | fail
      all_goals (conv => whnf)
      refine VLoop.inv (fun m : Int => stX 2 l s (O.map hP) (G.map hP) O.length G.length m) (fun m => 0 ≤ m ∧ m ≤ G.length) (fun m => G.length - m.toNat) 0 ⟨Int.le_refl _, by omega⟩ rfl ?_
      intro m hm ihm
      show VLoop cx E _ (stX 2 l s (O.map hP) (G.map hP) O.length G.length m) _
      refine VLoop.unroll hE mixed ?_
      conv => whnf
      refine bcase_of (fun hr => ?_) (fun hr => ?_)
      case refine_1 =>
        have hmn : m < G.length := by simpa using hr
        have hwm : IntKind.i64.wrap (m + 1) = m + 1 := wrapI64 (by omega) (by omega)
        obtain ⟨y, hy⟩ : ∃ z, G[m.toNat]? = some z := ⟨_, List.getElem?_eq_getElem (by omega)⟩
        have hym := List.mem_of_getElem? hy
        obtain ⟨k1, k2⟩ := inv.gone hym
        have c1 := look_ok s y.1 y.2
        have c2 := read_ok s y.1 y.2 0
        rw [k1] at c1
        rw [k2] at c2
        repeat' (conv => whnf); first
         | (refine bcase_of (fun hr => ?_) (fun hr => ?_) <;> (try simp at hr))
         | (apply And.intro; · first | exact Nat.le_of_ble_eq_true rfl | decide | exact ⟨hm.1, by omega⟩ | (show indep _ _ = true; kernel_rfl))
         | (apply Exists.intro; apply And.intro; · first | exact rfl | exact (show lget _ _ = some (hP y) by rw [lget_eq, Nat.zero_add, List.getElem?_map, hy]; rfl))
         | (apply Exists.intro; apply Exists.intro; apply Exists.intro; apply And.intro; · first | (apply ATriple.call (c1) <;> rfl) | (apply ATriple.call (c2) <;> rfl))
         | fail
        all_goals (conv => whnf)
        refine VLoop.norm [0, 3, 4, 5, 12] [24, 139, 129] ?_
        repeat' (conv => whnf); first | (apply And.intro; · first | exact pure_bytes l | ((repeat' first | exact pure_h _ | exact pure_h1 _ _ | exact pure_nil | apply pure_app | apply pure_take | apply pure_drop); done)) | fail
        all_goals (conv => whnf)
        exact ihm (IntKind.i64.wrap (m + 1)) ⟨by omega, by omega⟩ (by omega)
      case refine_2 =>
        repeat' (conv => whnf); first
         | (refine bcase_of (fun hr => ?_) (fun hr => ?_) <;> try (exfalso; simp at hr; done))
         | (apply And.intro; · first | exact Nat.le_of_ble_eq_true rfl | decide | (show indep _ _ = true; kernel_rfl))
         | (apply Exists.intro; apply And.intro; · first | exact rfl)
         | fail
        all_goals (conv => whnf)
        refine VLoop.norm [0, 3, 4, 5, 17] [24, 139, 129] ?_
        repeat' (conv => whnf); first | (apply And.intro; · first | exact pure_bytes l | ((repeat' first | exact pure_h _ | exact pure_h1 _ _ | exact pure_nil | apply pure_app | apply pure_take | apply pure_drop); done)) | fail
        all_goals (conv => whnf)
        refine VLoop.inv (fun m : Int => stY 2 l s (O.map hP) (G.map hP) O.length G.length m) (fun m => 0 ≤ m ∧ m ≤ O.length) (fun m => O.length - m.toNat) 0 ⟨Int.le_refl _, by omega⟩ rfl ?_
        intro m hm ihm
        show VLoop cx E _ (stY 2 l s (O.map hP) (G.map hP) O.length G.length m) _
        refine VLoop.unroll hE mixed ?_
        conv => whnf
        refine bcase_of (fun hr => ?_) (fun hr => ?_)
        case refine_1 =>
          have hmn : m < O.length := by simpa using hr
          have hwm : IntKind.i64.wrap (m + 1) = m + 1 := wrapI64 (by omega) (by omega)
          obtain ⟨y, hy⟩ : ∃ z, O[m.toNat]? = some z := ⟨_, List.getElem?_eq_getElem (by omega)⟩
          have hym := List.mem_of_getElem? hy
          have c1 := look_ok s y.1 y.2
          rw [inv.there hym] at c1
          repeat' (conv => whnf); first
           | (refine bcase_of (fun hr => ?_) (fun hr => ?_) <;> (try simp at hr))
           | (apply And.intro; · first | exact Nat.le_of_ble_eq_true rfl | decide | exact ⟨hm.1, by omega⟩ | (show indep _ _ = true; kernel_rfl))
           | (apply Exists.intro; apply And.intro; · first | exact rfl | exact (show lget _ _ = some (hP y) by rw [lget_eq, Nat.zero_add, List.getElem?_map, hy]; rfl))
           | (apply Exists.intro; apply Exists.intro; apply Exists.intro; apply And.intro; · first | (apply ATriple.call (c1) <;> rfl))
           | fail
          all_goals (conv => whnf)
          refine VLoop.norm [0, 3, 4, 5, 17] [24, 139, 129] ?_
          repeat' (conv => whnf); first | (apply And.intro; · first | exact pure_bytes l | ((repeat' first | exact pure_h _ | exact pure_h1 _ _ | exact pure_nil | apply pure_app | apply pure_take | apply pure_drop); done)) | fail
          all_goals (conv => whnf)
          exact ihm (IntKind.i64.wrap (m + 1)) ⟨by omega, by omega⟩ (by omega)
        case refine_2 =>
          repeat' (conv => whnf); first
           | (refine bcase_of (fun hr => ?_) (fun hr => ?_) <;> try (exfalso; simp at hr; done))
           | (apply And.intro; · first | exact Nat.le_of_ble_eq_true rfl | decide | (show indep _ _ = true; kernel_rfl))
           | (apply Exists.intro; apply And.intro; · first | exact rfl | exact wakes_ok)
           | fail
          all_goals (conv => whnf)
          all_goals rfl
    case refine_1 =>
      have hn : i < l.length := by simp at hr; omega
      have hw : IntKind.i64.wrap (i + 1) = i + 1 := wrapI64 (by omega) (by omega)
      obtain ⟨b, hx⟩ : ∃ z, l[i.toNat]? = some z := ⟨_, List.getElem?_eq_getElem (by omega)⟩
      have hb8 := hl _ (List.mem_of_getElem? hx)
      by_cases hb : b < 150
      case pos =>
        by_cases h6 : (O.length : Int) < 6
        case pos =>
          obtain ⟨f1, f2, f3, f4⟩ := inv.opens (v := i) g1 (by omega) h6
          obtain ⟨s2, hs2⟩ : ∃ z, z = openS s i := ⟨_, rfl⟩
          have c1 := open_ok s i
          rw [← hs2, f1] at c1
          rw [← hs2] at f4
          generalize openP s i = P at c1 f2 f3 f4
          generalize openT s i = T at c1 f2 f3 f4
          have hc : lenTo s2.a s2.b s2.c s2.d s2.e s2.f 6 = O.length + 1 := by have := f4.c; simpa [cnt] using this
          repeat' (conv => whnf); first
           | (refine bcase_of (fun hr => ?_) (fun hr => ?_) <;> (try simp [hb, h6] at hr) <;> try omega)
           | (apply And.intro; · first | exact Nat.le_of_ble_eq_true rfl | decide | exact ⟨g1, by rw [hlen]; omega⟩ | (show indep _ _ = true; kernel_rfl))
           | (apply Exists.intro; apply And.intro; · first | exact rfl | exact (show lget _ _ = some [u8V b] by rw [lget_eq, List.getElem?_map, hx]; rfl))
           | (apply Exists.intro; apply Exists.intro; apply Exists.intro; apply And.intro; · first | (apply ATriple.call (c1) <;> rfl))
           | fail
          all_goals (conv => whnf)
          refine VLoop.norm [0, 3, 4, 5, 6, 7, 9] [24, 139, 129, 7] ?_
          repeat' (conv => whnf); first | (apply And.intro; · first | exact pure_bytes l | ((repeat' first | exact pure_h _ | exact pure_h1 _ _ | exact pure_nil | apply pure_app | apply pure_take | apply pure_drop); done)) | fail
          all_goals (conv => whnf)
          refine VLoop.inv (fun m : Int => stV 2 l s2 (O.map hP) (G.map hP) O.length G.length P T i m) (fun m => 0 ≤ m ∧ m ≤ O.length) (fun m => O.length - m.toNat) 0 ⟨Int.le_refl _, by omega⟩ rfl ?_
          intro m hm ihm
          show VLoop cx E _ (stV 2 l s2 (O.map hP) (G.map hP) O.length G.length P T i m) _
          refine VLoop.unroll hE mixed ?_
          conv => whnf
          refine bcase_of (fun hr => ?_) (fun hr => ?_)
          case refine_1 =>
            have hmn : m < O.length := by simpa using hr
            have hwm : IntKind.i64.wrap (m + 1) = m + 1 := wrapI64 (by omega) (by omega)
            obtain ⟨y, hy⟩ : ∃ z, O[m.toNat]? = some z := ⟨_, List.getElem?_eq_getElem (by omega)⟩
            have hym := List.mem_of_getElem? hy
            have h2 := f2 y hym
            repeat' (conv => whnf); first
             | (refine bcase_of (fun hr => ?_) (fun hr => ?_) <;> (try simp [h2] at hr) <;> try omega)
             | (apply And.intro; · first | exact Nat.le_of_ble_eq_true rfl | decide | exact ⟨hm.1, by omega⟩ | (show indep _ _ = true; kernel_rfl))
             | (apply Exists.intro; apply And.intro; · first | exact rfl | exact (show lget _ _ = some (hP y) by rw [lget_eq, Nat.zero_add, List.getElem?_map, hy]; rfl))
             | fail
            all_goals (conv => whnf)
            refine VLoop.norm [0, 3, 4, 5, 6, 7, 9] [24, 139, 129, 7] ?_
            repeat' (conv => whnf); first | (apply And.intro; · first | exact pure_bytes l | ((repeat' first | exact pure_h _ | exact pure_h1 _ _ | exact pure_nil | apply pure_app | apply pure_take | apply pure_drop); done)) | fail
            all_goals (conv => whnf)
            exact ihm (IntKind.i64.wrap (m + 1)) ⟨by omega, by omega⟩ (by omega)
          case refine_2 =>
            repeat' (conv => whnf); first
             | (refine bcase_of (fun hr => ?_) (fun hr => ?_) <;> try (exfalso; simp at hr; done))
             | (apply And.intro; · first | exact Nat.le_of_ble_eq_true rfl | decide | (show indep _ _ = true; kernel_rfl))
             | (apply Exists.intro; apply And.intro; · first | exact rfl)
             | fail
            all_goals (conv => whnf)
            refine VLoop.norm [0, 3, 4, 5, 6, 7, 10] [24, 139, 129, 7] ?_
            repeat' (conv => whnf); first | (apply And.intro; · first | exact pure_bytes l | ((repeat' first | exact pure_h _ | exact pure_h1 _ _ | exact pure_nil | apply pure_app | apply pure_take | apply pure_drop); done)) | fail
            all_goals (conv => whnf)
            refine VLoop.inv (fun m : Int => stW 2 l s2 (O.map hP) (G.map hP) O.length G.length P T i m) (fun m => 0 ≤ m ∧ m ≤ G.length) (fun m => G.length - m.toNat) 0 ⟨Int.le_refl _, by omega⟩ rfl ?_
            intro m hm ihm
            show VLoop cx E _ (stW 2 l s2 (O.map hP) (G.map hP) O.length G.length P T i m) _
            refine VLoop.unroll hE mixed ?_
            conv => whnf
            refine bcase_of (fun hr => ?_) (fun hr => ?_)
            case refine_1 =>
              have hmn : m < G.length := by simpa using hr
              have hwm : IntKind.i64.wrap (m + 1) = m + 1 := wrapI64 (by omega) (by omega)
              obtain ⟨y, hy⟩ : ∃ z, G[m.toNat]? = some z := ⟨_, List.getElem?_eq_getElem (by omega)⟩
              have hym := List.mem_of_getElem? hy
              have h3 := f3 y hym
              repeat' (conv => whnf); first
               | (refine bcase_of (fun hr => ?_) (fun hr => ?_) <;> (try simp at hr) <;> try (exact absurd hr h3) <;> try omega)
               | (apply And.intro; · first | exact Nat.le_of_ble_eq_true rfl | decide | exact ⟨hm.1, by omega⟩ | (show indep _ _ = true; kernel_rfl))
               | (apply Exists.intro; apply And.intro; · first | exact rfl | exact (show lget _ _ = some (hP y) by rw [lget_eq, Nat.zero_add, List.getElem?_map, hy]; rfl))
               | fail
              all_goals (conv => whnf)
              refine VLoop.norm [0, 3, 4, 5, 6, 7, 10] [24, 139, 129, 7] ?_
              repeat' (conv => whnf); first | (apply And.intro; · first | exact pure_bytes l | ((repeat' first | exact pure_h _ | exact pure_h1 _ _ | exact pure_nil | apply pure_app | apply pure_take | apply pure_drop); done)) | fail
              all_goals (conv => whnf)
              exact ihm (IntKind.i64.wrap (m + 1)) ⟨by omega, by omega⟩ (by omega)
            case refine_2 =>
              repeat' (conv => whnf); first
               | (refine bcase_of (fun hr => ?_) (fun hr => ?_) <;> (try simp [hc] at hr) <;> try omega)
               | (apply And.intro; · first | exact Nat.le_of_ble_eq_true rfl | decide | exact one_h1 _ _ | exact room_h (by simp) (by omega) (by simp) | exact ⟨Nat.le_of_ble_eq_true rfl, Nat.le_of_ble_eq_true rfl⟩ | exact ⟨by omega, by omega⟩ | (show indep _ _ = true; kernel_rfl))
               | (apply Exists.intro; apply And.intro; · first | exact rfl)
               | (apply Exists.intro; apply Exists.intro; apply Exists.intro; apply And.intro; · first | (apply ATriple.call (len_ok s2.k s2.l s2.n s2.a s2.b s2.c s2.d s2.e s2.f) <;> rfl))
               | fail
              all_goals (conv => whnf)
              refine VLoop.norm [0, 3, 4, 5, 6] [24, 95, 129] ?_
              repeat' (conv => whnf); first | (apply And.intro; · first | exact pure_bytes l | ((repeat' first | exact pure_h _ | exact pure_h1 _ _ | exact pure_nil | apply pure_app | apply pure_take | apply pure_drop); done)) | fail
              all_goals (conv => whnf)
              refine ih ⟨3, s2, (O ++ [(P, T)]), G, (((O.map hP).drop 0).take O.length ++ ([hP (P, T)].drop 0).take 1), (G.map hP), (O.length + 1), G.length, IntKind.i64.wrap (i + 1)⟩ ⟨Nat.le_of_ble_eq_true rfl, by simp only [hw]; exact f4, ?_, ?_, ?_, ?_, by simp [hw] at g0 ⊢; omega, by simp only [hw]; omega, by simp only [hw]; omega, fun h => (by cases h), fun h => absurd h (by simp)⟩ (by simp only [hw]; omega)
              · first | rfl | simp [tO]
              · first | rfl | simp [tO]
              · first | rfl | simp [tO]
              · first | rfl | simp [tO]
        case neg =>
          obtain ⟨f1, f2⟩ := inv.full (v := i) g1 h6
          have c1 := open_ok s i
          rw [f1, f2] at c1
          generalize openP s i = P at c1
          generalize openT s i = T at c1
          repeat' (conv => whnf); first
           | (refine bcase_of (fun hr => ?_) (fun hr => ?_) <;> (try simp [hb, h6] at hr) <;> try omega)
           | (apply And.intro; · first | exact Nat.le_of_ble_eq_true rfl | decide | exact ⟨g1, by rw [hlen]; omega⟩ | (show indep _ _ = true; kernel_rfl))
           | (apply Exists.intro; apply And.intro; · first | exact rfl | exact (show lget _ _ = some [u8V b] by rw [lget_eq, List.getElem?_map, hx]; rfl))
           | (apply Exists.intro; apply Exists.intro; apply Exists.intro; apply And.intro; · first | (apply ATriple.call (c1) <;> rfl))
           | fail
          all_goals (conv => whnf)
          refine VLoop.norm [0, 3, 4, 5, 6] [24, 139, 129] ?_
          repeat' (conv => whnf); first | (apply And.intro; · first | exact pure_bytes l | ((repeat' first | exact pure_h _ | exact pure_h1 _ _ | exact pure_nil | apply pure_app | apply pure_take | apply pure_drop); done)) | fail
          all_goals (conv => whnf)
          refine ih ⟨2, s, O, G, (O.map hP), (G.map hP), O.length, G.length, IntKind.i64.wrap (i + 1)⟩ ⟨Nat.le_of_ble_eq_true rfl, by simp only [hw]; exact { inv with t := fun p hp => ⟨(inv.t p hp).1, by have := (inv.t p hp).2; omega⟩ }, ?_, ?_, ?_, ?_, by simp [hw] at g0 ⊢; omega, by simp only [hw]; omega, by simp only [hw]; omega, fun h => (by cases h), fun h => absurd h (by simp)⟩ (by simp only [hw]; omega)
          · first | rfl | simp
          · first | rfl | simp
          · first | rfl | simp
          · first | rfl | simp
      case neg =>
        by_cases hO : O.length = 0
        case pos =>
          have hc : lenTo s.a s.b s.c s.d s.e s.f 6 = O.length := inv.c
          repeat' (conv => whnf); first
           | (refine bcase_of (fun hr => ?_) (fun hr => ?_) <;> (try simp [hb, hc, hO] at hr) <;> try omega)
           | (apply And.intro; · first | exact Nat.le_of_ble_eq_true rfl | decide | exact ⟨g1, by rw [hlen]; omega⟩ | (show indep _ _ = true; kernel_rfl))
           | (apply Exists.intro; apply And.intro; · first | exact rfl | exact (show lget _ _ = some [u8V b] by rw [lget_eq, List.getElem?_map, hx]; rfl))
           | (apply Exists.intro; apply Exists.intro; apply Exists.intro; apply And.intro; · first | (apply ATriple.call (len_ok s.k s.l s.n s.a s.b s.c s.d s.e s.f) <;> rfl))
           | fail
          all_goals (conv => whnf)
          refine VLoop.norm [0, 3, 4, 5, 6] [24, 139, 129] ?_
          repeat' (conv => whnf); first | (apply And.intro; · first | exact pure_bytes l | ((repeat' first | exact pure_h _ | exact pure_h1 _ _ | exact pure_nil | apply pure_app | apply pure_take | apply pure_drop); done)) | fail
          all_goals (conv => whnf)
          refine ih ⟨2, s, O, G, (O.map hP), (G.map hP), O.length, G.length, IntKind.i64.wrap (i + 1)⟩ ⟨Nat.le_of_ble_eq_true rfl, by simp only [hw]; exact { inv with t := fun p hp => ⟨(inv.t p hp).1, by have := (inv.t p hp).2; omega⟩ }, ?_, ?_, ?_, ?_, by simp [hw] at g0 ⊢; omega, by simp only [hw]; omega, by simp only [hw]; omega, fun h => (by cases h), fun h => absurd h (by simp)⟩ (by simp only [hw]; omega)
          · first | rfl | simp
          · first | rfl | simp
          · first | rfl | simp
          · first | rfl | simp
        case neg =>
          have hwb : IntKind.i64.wrap b = b := wrapI64 (by omega) (by omega)
          obtain ⟨k, hk⟩ : ∃ k : Nat, (IntKind.i64.wrap b).tmod (O.length : Int) = (k : Int) := ⟨((IntKind.i64.wrap b).tmod (O.length : Int)).toNat, (Int.toNat_of_nonneg (Int.tmod_nonneg _ (by omega))).symm⟩
          have hkl : k < O.length := by have h1 := Int.tmod_lt_of_pos (IntKind.i64.wrap b) (show (0 : Int) < O.length by omega); omega
          have hwk : IntKind.i64.wrap ((k : Int) + 1) = k + 1 := wrapI64 (by omega) (by omega)
          obtain ⟨y, hy⟩ : ∃ z, O[k]? = some z := ⟨_, List.getElem?_eq_getElem hkl⟩
          obtain ⟨f1, f2, f3, f4⟩ := inv.closes hy
          have c1 := close_ok s y.1 y.2
          have c2 := close_ok (closeS s y.1 y.2) y.1 y.2
          rw [f1] at c1
          rw [f2, f3] at c2
          obtain ⟨s2, hs2⟩ : ∃ z, z = closeS s y.1 y.2 := ⟨_, rfl⟩
          rw [← hs2] at c1 c2 f4
          have hc : lenTo s2.a s2.b s2.c s2.d s2.e s2.f 6 = (O.take k ++ O.drop (k + 1)).length := f4.c
          repeat' (conv => whnf); first
           | (refine bcase_of (fun hr => ?_) (fun hr => ?_) <;> (try simp [hb, hc, hk, hwk] at hr) <;> (try omega) <;> try exact absurd (by rw [hr]; rfl) hO)
           | (apply And.intro; · first | exact Nat.le_of_ble_eq_true rfl | decide | exact ⟨g1, by rw [hlen]; omega⟩ | exact ⟨by rw [hk]; omega, by rw [hk]; omega⟩ | exact ⟨by rw [hk, hwk]; omega, by rw [hk, hwk]; omega⟩ | exact one_h1 _ _ | exact one_take (one_drop (one_h _) _) _ | exact room_h (by first | (simp; done) | (simp; omega)) (by first | omega | (simp; omega)) (by first | (simp; done) | (simp; omega)) | exact ⟨Nat.le_of_ble_eq_true rfl, Nat.le_of_ble_eq_true rfl⟩ | exact (by omega : (O.length : Int) ≠ 0) | (simp only [hk, hwk, List.length_map]; omega) | (simp; omega) | (show indep _ _ = true; kernel_rfl))
           | (apply Exists.intro; apply And.intro; · first | exact rfl | exact (show lget _ _ = some [u8V b] by rw [lget_eq, List.getElem?_map, hx]; rfl) | exact (show lget _ _ = some (hP y) by rw [hk, lget_eq, Nat.zero_add, Int.toNat_natCast, List.getElem?_map, hy]; rfl))
           | (apply Exists.intro; apply Exists.intro; apply Exists.intro; apply And.intro; · first | (apply ATriple.call (c1) <;> rfl) | (apply ATriple.call (c2) <;> rfl) | (apply ATriple.call (len_ok s2.k s2.l s2.n s2.a s2.b s2.c s2.d s2.e s2.f) <;> rfl))
           | fail
          all_goals (conv => whnf)
          refine VLoop.norm [0, 3, 4, 5, 6] [24, 139, 129] ?_
          repeat' (conv => whnf); first | (apply And.intro; · first | exact pure_bytes l | ((repeat' first | exact pure_h _ | exact pure_h1 _ _ | exact pure_nil | apply pure_app | apply pure_take | apply pure_drop); done)) | fail
          all_goals (conv => whnf)
          refine ih ⟨2, s2, (O.take k ++ O.drop (k + 1)), (G ++ [y]), ((((([] : List (List V)).drop 0).take 0 ++ (((O.map hP).drop 0).take ((IntKind.i64.wrap b).tmod (O.length : Int)).toNat)).drop 0).take (0 + (((O.map hP).drop 0).take ((IntKind.i64.wrap b).tmod (O.length : Int)).toNat).length) ++ (((O.map hP).drop (0 + (IntKind.i64.wrap ((IntKind.i64.wrap b).tmod (O.length : Int) + 1)).toNat)).take (O.length - (IntKind.i64.wrap ((IntKind.i64.wrap b).tmod (O.length : Int) + 1)).toNat))), (((G.map hP).drop 0).take G.length ++ ([hP y].drop 0).take 1), (0 + (((O.map hP).drop 0).take ((IntKind.i64.wrap b).tmod (O.length : Int)).toNat).length + (((O.map hP).drop (0 + (IntKind.i64.wrap ((IntKind.i64.wrap b).tmod (O.length : Int) + 1)).toNat)).take (O.length - (IntKind.i64.wrap ((IntKind.i64.wrap b).tmod (O.length : Int) + 1)).toNat)).length), (G.length + 1), IntKind.i64.wrap (i + 1)⟩ ⟨Nat.le_of_ble_eq_true rfl, by simp only [hw]; exact { f4 with t := fun p hp => ⟨(f4.t p hp).1, by have := (f4.t p hp).2; omega⟩ }, ?_, ?_, ?_, ?_, by simp [hw] at g0 ⊢; omega, by simp only [hw]; omega, by simp only [hw]; omega, fun h => (by cases h), fun h => absurd h (by simp)⟩ (by simp only [hw]; omega)
          · exact cut_eq (by rw [hk]; rfl) (by rw [hk, hwk]; rfl)
          · first | rfl | (simp [tO, tG, hk, hwk]; done) | (simp [tO, tG, hk, hwk]; omega)
          · first | rfl | (simp [tO, tG, hk, hwk]; done) | (simp [tO, tG, hk, hwk]; omega)
          · first | rfl | (simp [tO, tG, hk, hwk]; done) | (simp [tO, tG, hk, hwk]; omega)
  · show VLoop cx E _ (stU 3 l s (O.map hP) (G.map hP) O.length G.length i) _
    refine VLoop.unroll hE mixed ?_
    conv => whnf
    refine bcase_of (fun hr => ?_) (fun hr => ?_)
    case refine_2 =>
      repeat' (conv => whnf); first
       | (refine bcase_of (fun hr => ?_) (fun hr => ?_) <;> try (exfalso; simp at hr; done))
       | (apply And.intro; · first | exact Nat.le_of_ble_eq_true rfl | decide | (show indep _ _ = true; kernel_rfl))
       | (apply Exists.intro; apply And.intro; · first | exact rfl)
       | fail
      all_goals (conv => whnf)
      refine VLoop.norm [0, 3, 4, 5, 12] [24, 95, 129] ?_
      repeat' (conv => whnf); first | (apply And.intro; · first | exact pure_bytes l | ((repeat' first | exact pure_h _ | exact pure_h1 _ _ | exact pure_nil | apply pure_app | apply pure_take | apply pure_drop); done)) | fail
      all_goals (conv => whnf)
      refine VLoop.inv (fun m : Int => stX 3 l s (O.map hP) (G.map hP) O.length G.length m) (fun m => 0 ≤ m ∧ m ≤ G.length) (fun m => G.length - m.toNat) 0 ⟨Int.le_refl _, by omega⟩ rfl ?_
      intro m hm ihm
      show VLoop cx E _ (stX 3 l s (O.map hP) (G.map hP) O.length G.length m) _
      refine VLoop.unroll hE mixed ?_
      conv => whnf
      refine bcase_of (fun hr => ?_) (fun hr => ?_)
      case refine_1 =>
        have hmn : m < G.length := by simpa using hr
        have hwm : IntKind.i64.wrap (m + 1) = m + 1 := wrapI64 (by omega) (by omega)
        obtain ⟨y, hy⟩ : ∃ z, G[m.toNat]? = some z := ⟨_, List.getElem?_eq_getElem (by omega)⟩
        have hym := List.mem_of_getElem? hy
        obtain ⟨k1, k2⟩ := inv.gone hym
        have c1 := look_ok s y.1 y.2
        have c2 := read_ok s y.1 y.2 0
        rw [k1] at c1
        rw [k2] at c2
        repeat' (conv => whnf); first
         | (refine bcase_of (fun hr => ?_) (fun hr => ?_) <;> (try simp at hr))
         | (apply And.intro; · first | exact Nat.le_of_ble_eq_true rfl | decide | exact ⟨hm.1, by omega⟩ | (show indep _ _ = true; kernel_rfl))
         | (apply Exists.intro; apply And.intro; · first | exact rfl | exact (show lget _ _ = some (hP y) by rw [lget_eq, Nat.zero_add, List.getElem?_map, hy]; rfl))
         | (apply Exists.intro; apply Exists.intro; apply Exists.intro; apply And.intro; · first | (apply ATriple.call (c1) <;> rfl) | (apply ATriple.call (c2) <;> rfl))
         | fail
        all_goals (conv => whnf)
        refine VLoop.norm [0, 3, 4, 5, 12] [24, 95, 129] ?_
        repeat' (conv => whnf); first | (apply And.intro; · first | exact pure_bytes l | ((repeat' first | exact pure_h _ | exact pure_h1 _ _ | exact pure_nil | apply pure_app | apply pure_take | apply pure_drop); done)) | fail
        all_goals (conv => whnf)
        exact ihm (IntKind.i64.wrap (m + 1)) ⟨by omega, by omega⟩ (by omega)
      case refine_2 =>
        repeat' (conv => whnf); first
         | (refine bcase_of (fun hr => ?_) (fun hr => ?_) <;> try (exfalso; simp at hr; done))
         | (apply And.intro; · first | exact Nat.le_of_ble_eq_true rfl | decide | (show indep _ _ = true; kernel_rfl))
         | (apply Exists.intro; apply And.intro; · first | exact rfl)
         | fail
        all_goals (conv => whnf)
        refine VLoop.norm [0, 3, 4, 5, 17] [24, 95, 129] ?_
        repeat' (conv => whnf); first | (apply And.intro; · first | exact pure_bytes l | ((repeat' first | exact pure_h _ | exact pure_h1 _ _ | exact pure_nil | apply pure_app | apply pure_take | apply pure_drop); done)) | fail
        all_goals (conv => whnf)
        refine VLoop.inv (fun m : Int => stY 3 l s (O.map hP) (G.map hP) O.length G.length m) (fun m => 0 ≤ m ∧ m ≤ O.length) (fun m => O.length - m.toNat) 0 ⟨Int.le_refl _, by omega⟩ rfl ?_
        intro m hm ihm
        show VLoop cx E _ (stY 3 l s (O.map hP) (G.map hP) O.length G.length m) _
        refine VLoop.unroll hE mixed ?_
        conv => whnf
        refine bcase_of (fun hr => ?_) (fun hr => ?_)
        case refine_1 =>
          have hmn : m < O.length := by simpa using hr
          have hwm : IntKind.i64.wrap (m + 1) = m + 1 := wrapI64 (by omega) (by omega)
          obtain ⟨y, hy⟩ : ∃ z, O[m.toNat]? = some z := ⟨_, List.getElem?_eq_getElem (by omega)⟩
          have hym := List.mem_of_getElem? hy
          have c1 := look_ok s y.1 y.2
          rw [inv.there hym] at c1
          repeat' (conv => whnf); first
           | (refine bcase_of (fun hr => ?_) (fun hr => ?_) <;> (try simp at hr))
           | (apply And.intro; · first | exact Nat.le_of_ble_eq_true rfl | decide | exact ⟨hm.1, by omega⟩ | (show indep _ _ = true; kernel_rfl))
           | (apply Exists.intro; apply And.intro; · first | exact rfl | exact (show lget _ _ = some (hP y) by rw [lget_eq, Nat.zero_add, List.getElem?_map, hy]; rfl))
           | (apply Exists.intro; apply Exists.intro; apply Exists.intro; apply And.intro; · first | (apply ATriple.call (c1) <;> rfl))
           | fail
          all_goals (conv => whnf)
          refine VLoop.norm [0, 3, 4, 5, 17] [24, 95, 129] ?_
          repeat' (conv => whnf); first | (apply And.intro; · first | exact pure_bytes l | ((repeat' first | exact pure_h _ | exact pure_h1 _ _ | exact pure_nil | apply pure_app | apply pure_take | apply pure_drop); done)) | fail
          all_goals (conv => whnf)
          exact ihm (IntKind.i64.wrap (m + 1)) ⟨by omega, by omega⟩ (by omega)
        case refine_2 =>
          repeat' (conv => whnf); first
           | (refine bcase_of (fun hr => ?_) (fun hr => ?_) <;> try (exfalso; simp at hr; done))
           | (apply And.intro; · first | exact Nat.le_of_ble_eq_true rfl | decide | (show indep _ _ = true; kernel_rfl))
           | (apply Exists.intro; apply And.intro; · first | exact rfl | exact wakes_ok)
           | fail
          all_goals (conv => whnf)
          all_goals rfl
    case refine_1 =>
      have hn : i < l.length := by simp at hr; omega
      have hw : IntKind.i64.wrap (i + 1) = i + 1 := wrapI64 (by omega) (by omega)
      obtain ⟨b, hx⟩ : ∃ z, l[i.toNat]? = some z := ⟨_, List.getElem?_eq_getElem (by omega)⟩
      have hb8 := hl _ (List.mem_of_getElem? hx)
      by_cases hb : b < 150
      case pos =>
        by_cases h6 : (O.length : Int) < 6
        case pos =>
          obtain ⟨f1, f2, f3, f4⟩ := inv.opens (v := i) g1 (by omega) h6
          obtain ⟨s2, hs2⟩ : ∃ z, z = openS s i := ⟨_, rfl⟩
          have c1 := open_ok s i
          rw [← hs2, f1] at c1
          rw [← hs2] at f4
          generalize openP s i = P at c1 f2 f3 f4
          generalize openT s i = T at c1 f2 f3 f4
          have hc : lenTo s2.a s2.b s2.c s2.d s2.e s2.f 6 = O.length + 1 := by have := f4.c; simpa [cnt] using this
          repeat' (conv => whnf); first
           | (refine bcase_of (fun hr => ?_) (fun hr => ?_) <;> (try simp [hb, h6] at hr) <;> try omega)
           | (apply And.intro; · first | exact Nat.le_of_ble_eq_true rfl | decide | exact ⟨g1, by rw [hlen]; omega⟩ | (show indep _ _ = true; kernel_rfl))
           | (apply Exists.intro; apply And.intro; · first | exact rfl | exact (show lget _ _ = some [u8V b] by rw [lget_eq, List.getElem?_map, hx]; rfl))
           | (apply Exists.intro; apply Exists.intro; apply Exists.intro; apply And.intro; · first | (apply ATriple.call (c1) <;> rfl))
           | fail
          all_goals (conv => whnf)
          refine VLoop.norm [0, 3, 4, 5, 6, 7, 9] [24, 95, 129, 7] ?_
          repeat' (conv => whnf); first | (apply And.intro; · first | exact pure_bytes l | ((repeat' first | exact pure_h _ | exact pure_h1 _ _ | exact pure_nil | apply pure_app | apply pure_take | apply pure_drop); done)) | fail
          all_goals (conv => whnf)
          refine VLoop.inv (fun m : Int => stV 3 l s2 (O.map hP) (G.map hP) O.length G.length P T i m) (fun m => 0 ≤ m ∧ m ≤ O.length) (fun m => O.length - m.toNat) 0 ⟨Int.le_refl _, by omega⟩ rfl ?_
          intro m hm ihm
          show VLoop cx E _ (stV 3 l s2 (O.map hP) (G.map hP) O.length G.length P T i m) _
          refine VLoop.unroll hE mixed ?_
          conv => whnf
          refine bcase_of (fun hr => ?_) (fun hr => ?_)
          case refine_1 =>
            have hmn : m < O.length := by simpa using hr
            have hwm : IntKind.i64.wrap (m + 1) = m + 1 := wrapI64 (by omega) (by omega)
            obtain ⟨y, hy⟩ : ∃ z, O[m.toNat]? = some z := ⟨_, List.getElem?_eq_getElem (by omega)⟩
            have hym := List.mem_of_getElem? hy
            have h2 := f2 y hym
            repeat' (conv => whnf); first
             | (refine bcase_of (fun hr => ?_) (fun hr => ?_) <;> (try simp [h2] at hr) <;> try omega)
             | (apply And.intro; · first | exact Nat.le_of_ble_eq_true rfl | decide | exact ⟨hm.1, by omega⟩ | (show indep _ _ = true; kernel_rfl))
             | (apply Exists.intro; apply And.intro; · first | exact rfl | exact (show lget _ _ = some (hP y) by rw [lget_eq, Nat.zero_add, List.getElem?_map, hy]; rfl))
             | fail
            all_goals (conv => whnf)
            refine VLoop.norm [0, 3, 4, 5, 6, 7, 9] [24, 95, 129, 7] ?_
            repeat' (conv => whnf); first | (apply And.intro; · first | exact pure_bytes l | ((repeat' first | exact pure_h _ | exact pure_h1 _ _ | exact pure_nil | apply pure_app | apply pure_take | apply pure_drop); done)) | fail
            all_goals (conv => whnf)
            exact ihm (IntKind.i64.wrap (m + 1)) ⟨by omega, by omega⟩ (by omega)
          case refine_2 =>
            repeat' (conv => whnf); first
             | (refine bcase_of (fun hr => ?_) (fun hr => ?_) <;> try (exfalso; simp at hr; done))
             | (apply And.intro; · first | exact Nat.le_of_ble_eq_true rfl | decide | (show indep _ _ = true; kernel_rfl))
             | (apply Exists.intro; apply And.intro; · first | exact rfl)
             | fail
            all_goals (conv => whnf)
            refine VLoop.norm [0, 3, 4, 5, 6, 7, 10] [24, 95, 129, 7] ?_
            repeat' (conv => whnf); first | (apply And.intro; · first | exact pure_bytes l | ((repeat' first | exact pure_h _ | exact pure_h1 _ _ | exact pure_nil | apply pure_app | apply pure_take | apply pure_drop); done)) | fail
            all_goals (conv => whnf)
            refine VLoop.inv (fun m : Int => stW 3 l s2 (O.map hP) (G.map hP) O.length G.length P T i m) (fun m => 0 ≤ m ∧ m ≤ G.length) (fun m => G.length - m.toNat) 0 ⟨Int.le_refl _, by omega⟩ rfl ?_
            intro m hm ihm
            show VLoop cx E _ (stW 3 l s2 (O.map hP) (G.map hP) O.length G.length P T i m) _
            refine VLoop.unroll hE mixed ?_
            conv => whnf
            refine bcase_of (fun hr => ?_) (fun hr => ?_)
            case refine_1 =>
              have hmn : m < G.length := by simpa using hr
              have hwm : IntKind.i64.wrap (m + 1) = m + 1 := wrapI64 (by omega) (by omega)
              obtain ⟨y, hy⟩ : ∃ z, G[m.toNat]? = some z := ⟨_, List.getElem?_eq_getElem (by omega)⟩
              have hym := List.mem_of_getElem? hy
              have h3 := f3 y hym
              repeat' (conv => whnf); first
               | (refine bcase_of (fun hr => ?_) (fun hr => ?_) <;> (try simp at hr) <;> try (exact absurd hr h3) <;> try omega)
               | (apply And.intro; · first | exact Nat.le_of_ble_eq_true rfl | decide | exact ⟨hm.1, by omega⟩ | (show indep _ _ = true; kernel_rfl))
               | (apply Exists.intro; apply And.intro; · first | exact rfl | exact (show lget _ _ = some (hP y) by rw [lget_eq, Nat.zero_add, List.getElem?_map, hy]; rfl))
               | fail
              all_goals (conv => whnf)
              refine VLoop.norm [0, 3, 4, 5, 6, 7, 10] [24, 95, 129, 7] ?_
              repeat' (conv => whnf); first | (apply And.intro; · first | exact pure_bytes l | ((repeat' first | exact pure_h _ | exact pure_h1 _ _ | exact pure_nil | apply pure_app | apply pure_take | apply pure_drop); done)) | fail
              all_goals (conv => whnf)
              exact ihm (IntKind.i64.wrap (m + 1)) ⟨by omega, by omega⟩ (by omega)
            case refine_2 =>
              repeat' (conv => whnf); first
               | (refine bcase_of (fun hr => ?_) (fun hr => ?_) <;> (try simp [hc] at hr) <;> try omega)
               | (apply And.intro; · first | exact Nat.le_of_ble_eq_true rfl | decide | exact one_h1 _ _ | exact room_h (by simp) (by omega) (by simp) | exact ⟨Nat.le_of_ble_eq_true rfl, Nat.le_of_ble_eq_true rfl⟩ | exact ⟨by omega, by omega⟩ | (show indep _ _ = true; kernel_rfl))
               | (apply Exists.intro; apply And.intro; · first | exact rfl)
               | (apply Exists.intro; apply Exists.intro; apply Exists.intro; apply And.intro; · first | (apply ATriple.call (len_ok s2.k s2.l s2.n s2.a s2.b s2.c s2.d s2.e s2.f) <;> rfl))
               | fail
              all_goals (conv => whnf)
              refine VLoop.norm [0, 3, 4, 5, 6] [24, 95, 129] ?_
              repeat' (conv => whnf); first | (apply And.intro; · first | exact pure_bytes l | ((repeat' first | exact pure_h _ | exact pure_h1 _ _ | exact pure_nil | apply pure_app | apply pure_take | apply pure_drop); done)) | fail
              all_goals (conv => whnf)
              refine ih ⟨3, s2, (O ++ [(P, T)]), G, (((O.map hP).drop 0).take O.length ++ ([hP (P, T)].drop 0).take 1), (G.map hP), (O.length + 1), G.length, IntKind.i64.wrap (i + 1)⟩ ⟨Nat.le_of_ble_eq_true rfl, by simp only [hw]; exact f4, ?_, ?_, ?_, ?_, by simp [hw] at g0 ⊢; omega, by simp only [hw]; omega, by simp only [hw]; omega, fun h => (by cases h), fun h => absurd h (by simp)⟩ (by simp only [hw]; omega)
              · first | rfl | simp [tO]
              · first | rfl | simp [tO]
              · first | rfl | simp [tO]
              · first | rfl | simp [tO]
        case neg =>
          obtain ⟨f1, f2⟩ := inv.full (v := i) g1 h6
          have c1 := open_ok s i
          rw [f1, f2] at c1
          generalize openP s i = P at c1
          generalize openT s i = T at c1
          repeat' (conv => whnf); first
           | (refine bcase_of (fun hr => ?_) (fun hr => ?_) <;> (try simp [hb, h6] at hr) <;> try omega)
           | (apply And.intro; · first | exact Nat.le_of_ble_eq_true rfl | decide | exact ⟨g1, by rw [hlen]; omega⟩ | (show indep _ _ = true; kernel_rfl))
           | (apply Exists.intro; apply And.intro; · first | exact rfl | exact (show lget _ _ = some [u8V b] by rw [lget_eq, List.getElem?_map, hx]; rfl))
           | (apply Exists.intro; apply Exists.intro; apply Exists.intro; apply And.intro; · first | (apply ATriple.call (c1) <;> rfl))
           | fail
          all_goals (conv => whnf)
          refine VLoop.norm [0, 3, 4, 5, 6] [24, 95, 129] ?_
          repeat' (conv => whnf); first | (apply And.intro; · first | exact pure_bytes l | ((repeat' first | exact pure_h _ | exact pure_h1 _ _ | exact pure_nil | apply pure_app | apply pure_take | apply pure_drop); done)) | fail
          all_goals (conv => whnf)
          refine ih ⟨3, s, O, G, (O.map hP), (G.map hP), O.length, G.length, IntKind.i64.wrap (i + 1)⟩ ⟨Nat.le_of_ble_eq_true rfl, by simp only [hw]; exact { inv with t := fun p hp => ⟨(inv.t p hp).1, by have := (inv.t p hp).2; omega⟩ }, ?_, ?_, ?_, ?_, by simp [hw] at g0 ⊢; omega, by simp only [hw]; omega, by simp only [hw]; omega, fun h => (by cases h), fun h => absurd h (by simp)⟩ (by simp only [hw]; omega)
          · first | rfl | simp
          · first | rfl | simp
          · first | rfl | simp
          · first | rfl | simp
      case neg =>
        by_cases hO : O.length = 0
        case pos =>
          have hc : lenTo s.a s.b s.c s.d s.e s.f 6 = O.length := inv.c
          repeat' (conv => whnf); first
           | (refine bcase_of (fun hr => ?_) (fun hr => ?_) <;> (try simp [hb, hc, hO] at hr) <;> try omega)
           | (apply And.intro; · first | exact Nat.le_of_ble_eq_true rfl | decide | exact ⟨g1, by rw [hlen]; omega⟩ | (show indep _ _ = true; kernel_rfl))
           | (apply Exists.intro; apply And.intro; · first | exact rfl | exact (show lget _ _ = some [u8V b] by rw [lget_eq, List.getElem?_map, hx]; rfl))
           | (apply Exists.intro; apply Exists.intro; apply Exists.intro; apply And.intro; · first | (apply ATriple.call (len_ok s.k s.l s.n s.a s.b s.c s.d s.e s.f) <;> rfl))
           | fail
          all_goals (conv => whnf)
          refine VLoop.norm [0, 3, 4, 5, 6] [24, 95, 129] ?_
          repeat' (conv => whnf); first | (apply And.intro; · first | exact pure_bytes l | ((repeat' first | exact pure_h _ | exact pure_h1 _ _ | exact pure_nil | apply pure_app | apply pure_take | apply pure_drop); done)) | fail
          all_goals (conv => whnf)
          refine ih ⟨3, s, O, G, (O.map hP), (G.map hP), O.length, G.length, IntKind.i64.wrap (i + 1)⟩ ⟨Nat.le_of_ble_eq_true rfl, by simp only [hw]; exact { inv with t := fun p hp => ⟨(inv.t p hp).1, by have := (inv.t p hp).2; omega⟩ }, ?_, ?_, ?_, ?_, by simp [hw] at g0 ⊢; omega, by simp only [hw]; omega, by simp only [hw]; omega, fun h => (by cases h), fun h => absurd h (by simp)⟩ (by simp only [hw]; omega)
          · first | rfl | simp
          · first | rfl | simp
          · first | rfl | simp
          · first | rfl | simp
        case neg =>
          have hwb : IntKind.i64.wrap b = b := wrapI64 (by omega) (by omega)
          obtain ⟨k, hk⟩ : ∃ k : Nat, (IntKind.i64.wrap b).tmod (O.length : Int) = (k : Int) := ⟨((IntKind.i64.wrap b).tmod (O.length : Int)).toNat, (Int.toNat_of_nonneg (Int.tmod_nonneg _ (by omega))).symm⟩
          have hkl : k < O.length := by have h1 := Int.tmod_lt_of_pos (IntKind.i64.wrap b) (show (0 : Int) < O.length by omega); omega
          have hwk : IntKind.i64.wrap ((k : Int) + 1) = k + 1 := wrapI64 (by omega) (by omega)
          obtain ⟨y, hy⟩ : ∃ z, O[k]? = some z := ⟨_, List.getElem?_eq_getElem hkl⟩
          obtain ⟨f1, f2, f3, f4⟩ := inv.closes hy
          have c1 := close_ok s y.1 y.2
          have c2 := close_ok (closeS s y.1 y.2) y.1 y.2
          rw [f1] at c1
          rw [f2, f3] at c2
          obtain ⟨s2, hs2⟩ : ∃ z, z = closeS s y.1 y.2 := ⟨_, rfl⟩
          rw [← hs2] at c1 c2 f4
          have hc : lenTo s2.a s2.b s2.c s2.d s2.e s2.f 6 = (O.take k ++ O.drop (k + 1)).length := f4.c
          repeat' (conv => whnf); first
           | (refine bcase_of (fun hr => ?_) (fun hr => ?_) <;> (try simp [hb, hc, hk, hwk] at hr) <;> (try omega) <;> try exact absurd (by rw [hr]; rfl) hO)
           | (apply And.intro; · first | exact Nat.le_of_ble_eq_true rfl | decide | exact ⟨g1, by rw [hlen]; omega⟩ | exact ⟨by rw [hk]; omega, by rw [hk]; omega⟩ | exact ⟨by rw [hk, hwk]; omega, by rw [hk, hwk]; omega⟩ | exact one_h1 _ _ | exact one_take (one_drop (one_h _) _) _ | exact room_h (by first | (simp; done) | (simp; omega)) (by first | omega | (simp; omega)) (by first | (simp; done) | (simp; omega)) | exact ⟨Nat.le_of_ble_eq_true rfl, Nat.le_of_ble_eq_true rfl⟩ | exact (by omega : (O.length : Int) ≠ 0) | (simp only [hk, hwk, List.length_map]; omega) | (simp; omega) | (show indep _ _ = true; kernel_rfl))
           | (apply Exists.intro; apply And.intro; · first | exact rfl | exact (show lget _ _ = some [u8V b] by rw [lget_eq, List.getElem?_map, hx]; rfl) | exact (show lget _ _ = some (hP y) by rw [hk, lget_eq, Nat.zero_add, Int.toNat_natCast, List.getElem?_map, hy]; rfl))
           | (apply Exists.intro; apply Exists.intro; apply Exists.intro; apply And.intro; · first | (apply ATriple.call (c1) <;> rfl) | (apply ATriple.call (c2) <;> rfl) | (apply ATriple.call (len_ok s2.k s2.l s2.n s2.a s2.b s2.c s2.d s2.e s2.f) <;> rfl))
           | fail
          all_goals (conv => whnf)
          refine VLoop.norm [0, 3, 4, 5, 6] [24, 139, 129] ?_
          repeat' (conv => whnf); first | (apply And.intro; · first | exact pure_bytes l | ((repeat' first | exact pure_h _ | exact pure_h1 _ _ | exact pure_nil | apply pure_app | apply pure_take | apply pure_drop); done)) | fail
          all_goals (conv => whnf)
          refine ih ⟨2, s2, (O.take k ++ O.drop (k + 1)), (G ++ [y]), ((((([] : List (List V)).drop 0).take 0 ++ (((O.map hP).drop 0).take ((IntKind.i64.wrap b).tmod (O.length : Int)).toNat)).drop 0).take (0 + (((O.map hP).drop 0).take ((IntKind.i64.wrap b).tmod (O.length : Int)).toNat).length) ++ (((O.map hP).drop (0 + (IntKind.i64.wrap ((IntKind.i64.wrap b).tmod (O.length : Int) + 1)).toNat)).take (O.length - (IntKind.i64.wrap ((IntKind.i64.wrap b).tmod (O.length : Int) + 1)).toNat))), (((G.map hP).drop 0).take G.length ++ ([hP y].drop 0).take 1), (0 + (((O.map hP).drop 0).take ((IntKind.i64.wrap b).tmod (O.length : Int)).toNat).length + (((O.map hP).drop (0 + (IntKind.i64.wrap ((IntKind.i64.wrap b).tmod (O.length : Int) + 1)).toNat)).take (O.length - (IntKind.i64.wrap ((IntKind.i64.wrap b).tmod (O.length : Int) + 1)).toNat)).length), (G.length + 1), IntKind.i64.wrap (i + 1)⟩ ⟨Nat.le_of_ble_eq_true rfl, by simp only [hw]; exact { f4 with t := fun p hp => ⟨(f4.t p hp).1, by have := (f4.t p hp).2; omega⟩ }, ?_, ?_, ?_, ?_, by simp [hw] at g0 ⊢; omega, by simp only [hw]; omega, by simp only [hw]; omega, fun h => (by cases h), fun h => absurd h (by simp)⟩ (by simp only [hw]; omega)
          · exact cut_eq (by rw [hk]; rfl) (by rw [hk, hwk]; rfl)
          · first | rfl | (simp [tO, tG, hk, hwk]; done) | (simp [tO, tG, hk, hwk]; omega)
          · first | rfl | (simp [tO, tG, hk, hwk]; done) | (simp [tO, tG, hk, hwk]; omega)
          · first | rfl | (simp [tO, tG, hk, hwk]; done) | (simp [tO, tG, hk, hwk]; omega)
end Go.Proofs.Ythgalldffgaddaa
