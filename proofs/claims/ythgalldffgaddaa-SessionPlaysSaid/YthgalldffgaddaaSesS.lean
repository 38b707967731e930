/- Chapter 24: what its functions come to (SesS). -/
import Derived.Test.YthgalldffgaddaaSesR
import Derived.Test.YthgalldffgaddaaSesJ
set_option linter.unusedVariables false
set_option linter.unusedSimpArgs false
namespace Go.Proofs.Ythgalldffgaddaa
open Go Go.Vm
set_option maxRecDepth 100000
set_option maxHeartbeats 4000000
set_option linter.unusedSimpArgs false
def stP (l : List Act) (x y : Ss) (i : Int) : St Empty := mkSt 149 [(2, acts l), (9, .ref (39, 1) 0), (10, .ref (43, 1) 0), (11, i64V i)] [(38, .box (cellsS x)), (42, .box (rcellsS y))] []
theorem plays_ok (versions life : Int) (l : List Act) (hl : ∀ z ∈ l, (0 ≤ z.1 ∧ z.1 ≤ 255) ∧ (-9223372036854775808 ≤ z.2.1 ∧ z.2.1 < 9223372036854775808)) : PTriple Try.prog gv 3 [i64V versions, i64V life, acts l] (.bool true) := by
  have hlen : (l.map actE).length = l.length := by simp
  have hv := mod_in versions 7 (by decide) (by decide)
  have hf := mod_in life 60 (by decide) (by decide)
  have hk : 2 ≤ (IntKind.i64.wrap (2 + modV versions 7)) ∧ (IntKind.i64.wrap (2 + modV versions 7)) ≤ 8 := by rw [wrapI64 (by omega) (by omega)]; omega
  have hn1 : 1 ≤ (IntKind.i64.wrap (1 + modV life 60)) ∧ (IntKind.i64.wrap (1 + modV life 60)) ≤ 1048576 := by rw [wrapI64 (by omega) (by omega)]; omega
  refine PTriple.of_body (C := cx) Try.func3 rfl (by kernel_rfl) mixed fun E hE => ?_
  refine cutLoops (C := cx) (E := E) (b := ?b) (K := ?K) (fun z : Ss × Ss × Int => stP l z.1 z.2.1 z.2.2) (fun z => Rs z.1 z.2.1 ∧ 0 ≤ z.2.2 ∧ z.2.2 ≤ l.length ∧ l.length ≤ 100) (fun key => ?m) ?l
  case m =>
    have hR : Rs ⟨(IntKind.i64.wrap (2 + modV versions 7)), (IntKind.i64.wrap (1 + modV life 60)), 0, p0, p0, p0, p0, p0, p0⟩ ⟨(IntKind.i64.wrap (2 + modV versions 7)), (IntKind.i64.wrap (1 + modV life 60)), 0, p0, p0, p0, p0, p0, p0⟩ := by
      have z : Rp p0 p0 := ⟨rfl, rfl, fun h => by cases h⟩
      exact ⟨rfl, rfl, rfl, hk, (by decide : (0 : Int) ≤ 0 ∧ (0 : Int) ≤ 1099511627776), z, z, z, z, z, z⟩
    by_cases hg : 2 ≤ versions ∧ versions ≤ 8 ∧ 1 ≤ life ∧ life ≤ 1048576
    case pos =>
      have c1 := good_ok versions life
      rw [decide_eq_true hg] at c1
      repeat' (conv => whnf); first
       | (refine bcase_of (fun hr => ?_) (fun hr => ?_) <;> (try have hl3 : l.length ≤ 100 := by simp at hr; omega) <;> try (exfalso; simp at hr; done))
       | (apply And.intro; · first | exact Nat.le_of_ble_eq_true rfl | decide | decide | (show indep _ _ = true; kernel_rfl))
       | (apply Exists.intro; apply And.intro; · first | exact rfl | exact wakes_ok | exact c1 | exact mod_ok versions 7 (by decide) | exact mod_ok life 60 (by decide))
       | (apply Exists.intro; apply Exists.intro; apply Exists.intro; apply And.intro; · first | (apply ATriple.call (new_ok versions life ⟨hg.1, hg.2.1⟩ ⟨hg.2.2.1, hg.2.2.2⟩) <;> rfl) | (apply ATriple.call (new_ok (IntKind.i64.wrap (2 + modV versions 7)) (IntKind.i64.wrap (1 + modV life 60)) hk hn1) <;> rfl))
       | fail
      all_goals (conv => whnf)
      · rfl
      refine VLoop.norm [2, 9, 10, 11] [38, 42] ?_
      conv => whnf
      refine ⟨pure_acts l, ?_⟩
      conv => whnf
      exact key (⟨(IntKind.i64.wrap (2 + modV versions 7)), (IntKind.i64.wrap (1 + modV life 60)), 0, p0, p0, p0, p0, p0, p0⟩, ⟨(IntKind.i64.wrap (2 + modV versions 7)), (IntKind.i64.wrap (1 + modV life 60)), 0, p0, p0, p0, p0, p0, p0⟩, 0) ⟨hR, (by decide : (0 : Int) ≤ 0), (by show (0 : Int) ≤ l.length; omega), hl3⟩
    case neg =>
      have c1 := good_ok versions life
      rw [decide_eq_false hg] at c1
      repeat' (conv => whnf); first
       | (refine bcase_of (fun hr => ?_) (fun hr => ?_) <;> (try have hl3 : l.length ≤ 100 := by simp at hr; omega) <;> try (exfalso; simp at hr; done))
       | (apply And.intro; · first | exact Nat.le_of_ble_eq_true rfl | decide | decide | (show indep _ _ = true; kernel_rfl))
       | (apply Exists.intro; apply And.intro; · first | exact rfl | exact wakes_ok | exact c1 | exact mod_ok versions 7 (by decide) | exact mod_ok life 60 (by decide))
       | (apply Exists.intro; apply Exists.intro; apply Exists.intro; apply And.intro; · first | (apply ATriple.call (new_bad versions life hg) <;> rfl) | (apply ATriple.call (new_ok (IntKind.i64.wrap (2 + modV versions 7)) (IntKind.i64.wrap (1 + modV life 60)) hk hn1) <;> rfl))
       | fail
      all_goals (conv => whnf)
      · rfl
      refine VLoop.norm [2, 9, 10, 11] [38, 42] ?_
      conv => whnf
      refine ⟨pure_acts l, ?_⟩
      conv => whnf
      exact key (⟨(IntKind.i64.wrap (2 + modV versions 7)), (IntKind.i64.wrap (1 + modV life 60)), 0, p0, p0, p0, p0, p0, p0⟩, ⟨(IntKind.i64.wrap (2 + modV versions 7)), (IntKind.i64.wrap (1 + modV life 60)), 0, p0, p0, p0, p0, p0, p0⟩, 0) ⟨hR, (by decide : (0 : Int) ≤ 0), (by show (0 : Int) ≤ l.length; omega), hl3⟩
  case l =>
    intro z hz
    refine VLoop.inv (fun z : Ss × Ss × Int => stP l z.1 z.2.1 z.2.2) (fun z => Rs z.1 z.2.1 ∧ 0 ≤ z.2.2 ∧ z.2.2 ≤ l.length ∧ l.length ≤ 100) (fun z => l.length - z.2.2.toNat) z hz rfl ?_
    rintro ⟨x, y, i⟩ ⟨h, g1, g2, g3⟩ ih
    simp only at h g1 g2 g3 ih
    show VLoop cx E _ (stP l x y i) _
    refine VLoop.unroll hE mixed ?_
    conv => whnf
    refine bcase_of (fun hr => ?_) (fun hr => ?_)
    case refine_2 =>
      repeat' (conv => whnf); first
       | (refine bcase_of (fun hr => ?_) (fun hr => ?_) <;> skip)
       | (apply And.intro; · first | exact Nat.le_of_ble_eq_true rfl | decide | (show indep _ _ = true; kernel_rfl))
       | (apply Exists.intro; apply And.intro; · first | exact rfl | exact wakes_ok | exact none_ok 0 1)
       | fail
      all_goals (conv => whnf)
      all_goals rfl
    case refine_1 =>
      have hn : i < l.length := by simp at hr; omega
      have hw : IntKind.i64.wrap (i + 1) = i + 1 := wrapI64 (by omega) (by omega)
      obtain ⟨⟨kd, nn, pp, tt'⟩, hx⟩ : ∃ z, l[i.toNat]? = some z := ⟨_, List.getElem?_eq_getElem (by omega)⟩
      obtain ⟨⟨hk0, hk1⟩, hnn⟩ := hl _ (List.mem_of_getElem? hx)
      simp only at hk0 hk1 hnn
      have hm := mod_in nn 12 (by decide) (by decide)
      have hm64 : -9223372036854775808 ≤ modV nn 12 ∧ modV nn 12 < 9223372036854775808 := by omega
      have hop : kd.tmod 6 = 0 ∨ kd.tmod 6 = 1 ∨ kd.tmod 6 = 2 ∨ kd.tmod 6 = 3 ∨ kd.tmod 6 = 4 ∨ kd.tmod 6 = 5 := by rw [Int.tmod_eq_emod_of_nonneg hk0]; omega
      have hm2 : modV nn 12 < 9223372036854775808 := hm64.2
      by_cases hk2 : kd < 200
      case pos =>
        rcases hop with hop | hop | hop | hop | hop | hop
        · obtain ⟨x2, hx2⟩ : ∃ z, z = openS x (modV nn 12) := ⟨_, rfl⟩
          obtain ⟨y2, hy2⟩ : ∃ z, z = openS y (modV nn 12) := ⟨_, rfl⟩
          have c1 := open_ok x (modV nn 12)
          have c2 := ropen_ok y (modV nn 12)
          rw [← hx2] at c1
          rw [← hy2, ← (open_same h (modV nn 12)).1, ← (open_same h (modV nn 12)).2.1, ← (open_same h (modV nn 12)).2.2] at c2
          have h2 : Rs x2 y2 := by rw [hx2, hy2]; exact open_rs h (modV nn 12)
          generalize openP x (modV nn 12) = P2 at c1 c2
          generalize openT x (modV nn 12) = T2 at c1 c2
          generalize openE x (modV nn 12) = E2 at c1 c2
          clear hx2 hy2
          have hn2 := h2.n
          have hl2 := len_same h2
          repeat' (conv => whnf); first
           | (refine bcase_of (fun hr => ?_) (fun hr => ?_) <;> (try simp only [hop, hn2, hl2, decide_eq_true_eq, decide_eq_false_iff_not] at hr) <;> try (exfalso; first | omega | (simp at hr; done)))
           | (apply And.intro; · first | exact Nat.le_of_ble_eq_true rfl | decide | exact ⟨by omega, by rw [hlen]; omega⟩ | decide | (show indep _ _ = true; kernel_rfl))
           | (apply Exists.intro; apply And.intro; · first | exact rfl | exact mod_ok pp 6 (by decide) | exact mod_ok tt' 3 (by decide) | exact mod_ok nn 12 (by decide) | exact (show lget _ _ = some (actE (kd, nn, pp, tt')) by rw [lget_eq, List.getElem?_map, hx]; rfl))
           | (apply Exists.intro; apply Exists.intro; apply Exists.intro; apply And.intro; · first | (apply ATriple.call (c1) <;> rfl) | (apply ATriple.call (c2) <;> rfl) | (apply ATriple.call (told_ok h2 (modV pp 6) (IntKind.i64.wrap (1 + modV tt' 3)) (modV nn 12) hm64) <;> rfl) | (apply ATriple.call (told_ok h2 (modV pp 6) (IntKind.i64.wrap (1 + modV tt' 3)) nn hnn) <;> rfl) | (apply ATriple.call (now_ok x2.k x2.l x2.n x2.a x2.b x2.c x2.d x2.e x2.f) <;> rfl) | (apply ATriple.call (len_ok x2.k x2.l x2.n x2.a x2.b x2.c x2.d x2.e x2.f) <;> rfl) | (apply ATriple.call (rlen_ok y2.k y2.l y2.n y2.a y2.b y2.c y2.d y2.e y2.f) <;> rfl))
           | fail
          all_goals (conv => whnf)
          refine VLoop.norm [2, 9, 10, 11] [38, 42] ?_
          conv => whnf
          refine ⟨pure_acts l, ?_⟩
          conv => whnf
          refine ih (x2, y2, IntKind.i64.wrap (i + 1)) ⟨h2, by simp only [hw]; omega, by simp only [hw]; omega, g3⟩ (by simp only [hw]; omega)
        · obtain ⟨x2, hx2⟩ : ∃ z, z = openS x (modV nn 12) := ⟨_, rfl⟩
          obtain ⟨y2, hy2⟩ : ∃ z, z = openS y (modV nn 12) := ⟨_, rfl⟩
          have c1 := open_ok x (modV nn 12)
          have c2 := ropen_ok y (modV nn 12)
          rw [← hx2] at c1
          rw [← hy2, ← (open_same h (modV nn 12)).1, ← (open_same h (modV nn 12)).2.1, ← (open_same h (modV nn 12)).2.2] at c2
          have h2 : Rs x2 y2 := by rw [hx2, hy2]; exact open_rs h (modV nn 12)
          generalize openP x (modV nn 12) = P2 at c1 c2
          generalize openT x (modV nn 12) = T2 at c1 c2
          generalize openE x (modV nn 12) = E2 at c1 c2
          clear hx2 hy2
          have hn2 := h2.n
          have hl2 := len_same h2
          repeat' (conv => whnf); first
           | (refine bcase_of (fun hr => ?_) (fun hr => ?_) <;> (try simp only [hop, hn2, hl2, decide_eq_true_eq, decide_eq_false_iff_not] at hr) <;> try (exfalso; first | omega | (simp at hr; done)))
           | (apply And.intro; · first | exact Nat.le_of_ble_eq_true rfl | decide | exact ⟨by omega, by rw [hlen]; omega⟩ | decide | (show indep _ _ = true; kernel_rfl))
           | (apply Exists.intro; apply And.intro; · first | exact rfl | exact mod_ok pp 6 (by decide) | exact mod_ok tt' 3 (by decide) | exact mod_ok nn 12 (by decide) | exact (show lget _ _ = some (actE (kd, nn, pp, tt')) by rw [lget_eq, List.getElem?_map, hx]; rfl))
           | (apply Exists.intro; apply Exists.intro; apply Exists.intro; apply And.intro; · first | (apply ATriple.call (c1) <;> rfl) | (apply ATriple.call (c2) <;> rfl) | (apply ATriple.call (told_ok h2 (modV pp 6) (IntKind.i64.wrap (1 + modV tt' 3)) (modV nn 12) hm64) <;> rfl) | (apply ATriple.call (told_ok h2 (modV pp 6) (IntKind.i64.wrap (1 + modV tt' 3)) nn hnn) <;> rfl) | (apply ATriple.call (now_ok x2.k x2.l x2.n x2.a x2.b x2.c x2.d x2.e x2.f) <;> rfl) | (apply ATriple.call (len_ok x2.k x2.l x2.n x2.a x2.b x2.c x2.d x2.e x2.f) <;> rfl) | (apply ATriple.call (rlen_ok y2.k y2.l y2.n y2.a y2.b y2.c y2.d y2.e y2.f) <;> rfl))
           | fail
          all_goals (conv => whnf)
          refine VLoop.norm [2, 9, 10, 11] [38, 42] ?_
          conv => whnf
          refine ⟨pure_acts l, ?_⟩
          conv => whnf
          refine ih (x2, y2, IntKind.i64.wrap (i + 1)) ⟨h2, by simp only [hw]; omega, by simp only [hw]; omega, g3⟩ (by simp only [hw]; omega)
        · obtain ⟨x2, hx2⟩ : ∃ z, z = openS x (modV nn 12) := ⟨_, rfl⟩
          obtain ⟨y2, hy2⟩ : ∃ z, z = openS y (modV nn 12) := ⟨_, rfl⟩
          have c1 := open_ok x (modV nn 12)
          have c2 := ropen_ok y (modV nn 12)
          rw [← hx2] at c1
          rw [← hy2, ← (open_same h (modV nn 12)).1, ← (open_same h (modV nn 12)).2.1, ← (open_same h (modV nn 12)).2.2] at c2
          have h2 : Rs x2 y2 := by rw [hx2, hy2]; exact open_rs h (modV nn 12)
          generalize openP x (modV nn 12) = P2 at c1 c2
          generalize openT x (modV nn 12) = T2 at c1 c2
          generalize openE x (modV nn 12) = E2 at c1 c2
          clear hx2 hy2
          have hn2 := h2.n
          have hl2 := len_same h2
          repeat' (conv => whnf); first
           | (refine bcase_of (fun hr => ?_) (fun hr => ?_) <;> (try simp only [hop, hn2, hl2, decide_eq_true_eq, decide_eq_false_iff_not] at hr) <;> try (exfalso; first | omega | (simp at hr; done)))
           | (apply And.intro; · first | exact Nat.le_of_ble_eq_true rfl | decide | exact ⟨by omega, by rw [hlen]; omega⟩ | decide | (show indep _ _ = true; kernel_rfl))
           | (apply Exists.intro; apply And.intro; · first | exact rfl | exact mod_ok pp 6 (by decide) | exact mod_ok tt' 3 (by decide) | exact mod_ok nn 12 (by decide) | exact (show lget _ _ = some (actE (kd, nn, pp, tt')) by rw [lget_eq, List.getElem?_map, hx]; rfl))
           | (apply Exists.intro; apply Exists.intro; apply Exists.intro; apply And.intro; · first | (apply ATriple.call (c1) <;> rfl) | (apply ATriple.call (c2) <;> rfl) | (apply ATriple.call (told_ok h2 (modV pp 6) (IntKind.i64.wrap (1 + modV tt' 3)) (modV nn 12) hm64) <;> rfl) | (apply ATriple.call (told_ok h2 (modV pp 6) (IntKind.i64.wrap (1 + modV tt' 3)) nn hnn) <;> rfl) | (apply ATriple.call (now_ok x2.k x2.l x2.n x2.a x2.b x2.c x2.d x2.e x2.f) <;> rfl) | (apply ATriple.call (len_ok x2.k x2.l x2.n x2.a x2.b x2.c x2.d x2.e x2.f) <;> rfl) | (apply ATriple.call (rlen_ok y2.k y2.l y2.n y2.a y2.b y2.c y2.d y2.e y2.f) <;> rfl))
           | fail
          all_goals (conv => whnf)
          refine VLoop.norm [2, 9, 10, 11] [38, 42] ?_
          conv => whnf
          refine ⟨pure_acts l, ?_⟩
          conv => whnf
          refine ih (x2, y2, IntKind.i64.wrap (i + 1)) ⟨h2, by simp only [hw]; omega, by simp only [hw]; omega, g3⟩ (by simp only [hw]; omega)
        · obtain ⟨x2, hx2⟩ : ∃ z, z = closeS x (modV pp 6) (IntKind.i64.wrap (1 + modV tt' 3)) := ⟨_, rfl⟩
          obtain ⟨y2, hy2⟩ : ∃ z, z = rcloseS y (modV pp 6) (IntKind.i64.wrap (1 + modV tt' 3)) := ⟨_, rfl⟩
          have c1 := close_ok x (modV pp 6) (IntKind.i64.wrap (1 + modV tt' 3))
          have c2 := rclose_ok y (modV pp 6) (IntKind.i64.wrap (1 + modV tt' 3))
          rw [← hx2] at c1
          rw [← hy2, ← (close_rs h (modV pp 6) (IntKind.i64.wrap (1 + modV tt' 3))).1] at c2
          have h2 : Rs x2 y2 := by rw [hx2, hy2]; exact (close_rs h (modV pp 6) (IntKind.i64.wrap (1 + modV tt' 3))).2
          generalize closeE x (modV pp 6) (IntKind.i64.wrap (1 + modV tt' 3)) = E2 at c1 c2
          clear hx2 hy2
          have hn2 := h2.n
          have hl2 := len_same h2
          repeat' (conv => whnf); first
           | (refine bcase_of (fun hr => ?_) (fun hr => ?_) <;> (try simp only [hop, hn2, hl2, decide_eq_true_eq, decide_eq_false_iff_not] at hr) <;> try (exfalso; first | omega | (simp at hr; done)))
           | (apply And.intro; · first | exact Nat.le_of_ble_eq_true rfl | decide | exact ⟨by omega, by rw [hlen]; omega⟩ | decide | (show indep _ _ = true; kernel_rfl))
           | (apply Exists.intro; apply And.intro; · first | exact rfl | exact mod_ok pp 6 (by decide) | exact mod_ok tt' 3 (by decide) | exact mod_ok nn 12 (by decide) | exact (show lget _ _ = some (actE (kd, nn, pp, tt')) by rw [lget_eq, List.getElem?_map, hx]; rfl))
           | (apply Exists.intro; apply Exists.intro; apply Exists.intro; apply And.intro; · first | (apply ATriple.call (c1) <;> rfl) | (apply ATriple.call (c2) <;> rfl) | (apply ATriple.call (told_ok h2 (modV pp 6) (IntKind.i64.wrap (1 + modV tt' 3)) (modV nn 12) hm64) <;> rfl) | (apply ATriple.call (told_ok h2 (modV pp 6) (IntKind.i64.wrap (1 + modV tt' 3)) nn hnn) <;> rfl) | (apply ATriple.call (now_ok x2.k x2.l x2.n x2.a x2.b x2.c x2.d x2.e x2.f) <;> rfl) | (apply ATriple.call (len_ok x2.k x2.l x2.n x2.a x2.b x2.c x2.d x2.e x2.f) <;> rfl) | (apply ATriple.call (rlen_ok y2.k y2.l y2.n y2.a y2.b y2.c y2.d y2.e y2.f) <;> rfl))
           | fail
          all_goals (conv => whnf)
          refine VLoop.norm [2, 9, 10, 11] [38, 42] ?_
          conv => whnf
          refine ⟨pure_acts l, ?_⟩
          conv => whnf
          refine ih (x2, y2, IntKind.i64.wrap (i + 1)) ⟨h2, by simp only [hw]; omega, by simp only [hw]; omega, g3⟩ (by simp only [hw]; omega)
        · obtain ⟨x2, hx2⟩ : ∃ z : Ss, z = { x with n := tickT x.n (modV nn 12) } := ⟨_, rfl⟩
          obtain ⟨y2, hy2⟩ : ∃ z : Ss, z = { y with n := tickT y.n (modV nn 12) } := ⟨_, rfl⟩
          have c1 : ATriple Try.prog gv noRep 16 [.ref (0, 0) 0, i64V (modV nn 12)] [.box (cellsS x)] (.tup []) [.box (cellsS x2)] none := by rw [hx2]; exact tick_ok x.k x.l x.n x.a x.b x.c x.d x.e x.f (modV nn 12) (h.n ▸ h.nin)
          have c2 : ATriple Try.prog gv noRep 17 [.ref (0, 0) 0, i64V (modV nn 12)] [.box (rcellsS y)] (.tup []) [.box (rcellsS y2)] none := by rw [hy2]; exact rtick_ok y.k y.l y.n y.a y.b y.c y.d y.e y.f (modV nn 12) h.nin
          have h2 : Rs x2 y2 := by rw [hx2, hy2]; exact tick_rs h (modV nn 12)
          clear hx2 hy2
          have hn2 := h2.n
          have hl2 := len_same h2
          repeat' (conv => whnf); first
           | (refine bcase_of (fun hr => ?_) (fun hr => ?_) <;> (try simp only [hop, hn2, hl2, decide_eq_true_eq, decide_eq_false_iff_not] at hr) <;> try (exfalso; first | omega | (simp at hr; done)))
           | (apply And.intro; · first | exact Nat.le_of_ble_eq_true rfl | decide | exact ⟨by omega, by rw [hlen]; omega⟩ | decide | (show indep _ _ = true; kernel_rfl))
           | (apply Exists.intro; apply And.intro; · first | exact rfl | exact mod_ok pp 6 (by decide) | exact mod_ok tt' 3 (by decide) | exact mod_ok nn 12 (by decide) | exact (show lget _ _ = some (actE (kd, nn, pp, tt')) by rw [lget_eq, List.getElem?_map, hx]; rfl))
           | (apply Exists.intro; apply Exists.intro; apply Exists.intro; apply And.intro; · first | (apply ATriple.call (c1) <;> rfl) | (apply ATriple.call (c2) <;> rfl) | (apply ATriple.call (told_ok h2 (modV pp 6) (IntKind.i64.wrap (1 + modV tt' 3)) (modV nn 12) hm64) <;> rfl) | (apply ATriple.call (told_ok h2 (modV pp 6) (IntKind.i64.wrap (1 + modV tt' 3)) nn hnn) <;> rfl) | (apply ATriple.call (now_ok x2.k x2.l x2.n x2.a x2.b x2.c x2.d x2.e x2.f) <;> rfl) | (apply ATriple.call (len_ok x2.k x2.l x2.n x2.a x2.b x2.c x2.d x2.e x2.f) <;> rfl) | (apply ATriple.call (rlen_ok y2.k y2.l y2.n y2.a y2.b y2.c y2.d y2.e y2.f) <;> rfl))
           | fail
          all_goals (conv => whnf)
          refine VLoop.norm [2, 9, 10, 11] [38, 42] ?_
          conv => whnf
          refine ⟨pure_acts l, ?_⟩
          conv => whnf
          refine ih (x2, y2, IntKind.i64.wrap (i + 1)) ⟨h2, by simp only [hw]; omega, by simp only [hw]; omega, g3⟩ (by simp only [hw]; omega)
        · have h2 : Rs x y := h
          have hn2 := h2.n
          have hl2 := len_same h2
          repeat' (conv => whnf); first
           | (refine bcase_of (fun hr => ?_) (fun hr => ?_) <;> (try simp only [hop, hn2, hl2, decide_eq_true_eq, decide_eq_false_iff_not] at hr) <;> try (exfalso; first | omega | (simp at hr; done)))
           | (apply And.intro; · first | exact Nat.le_of_ble_eq_true rfl | decide | exact ⟨by omega, by rw [hlen]; omega⟩ | decide | (show indep _ _ = true; kernel_rfl))
           | (apply Exists.intro; apply And.intro; · first | exact rfl | exact mod_ok pp 6 (by decide) | exact mod_ok tt' 3 (by decide) | exact mod_ok nn 12 (by decide) | exact (show lget _ _ = some (actE (kd, nn, pp, tt')) by rw [lget_eq, List.getElem?_map, hx]; rfl))
           | (apply Exists.intro; apply Exists.intro; apply Exists.intro; apply And.intro; · first | (apply ATriple.call (told_ok h2 (modV pp 6) (IntKind.i64.wrap (1 + modV tt' 3)) (modV nn 12) hm64) <;> rfl) | (apply ATriple.call (told_ok h2 (modV pp 6) (IntKind.i64.wrap (1 + modV tt' 3)) nn hnn) <;> rfl) | (apply ATriple.call (now_ok x.k x.l x.n x.a x.b x.c x.d x.e x.f) <;> rfl) | (apply ATriple.call (len_ok x.k x.l x.n x.a x.b x.c x.d x.e x.f) <;> rfl) | (apply ATriple.call (rlen_ok y.k y.l y.n y.a y.b y.c y.d y.e y.f) <;> rfl))
           | fail
          all_goals (conv => whnf)
          refine VLoop.norm [2, 9, 10, 11] [38, 42] ?_
          conv => whnf
          refine ⟨pure_acts l, ?_⟩
          conv => whnf
          refine ih (x, y, IntKind.i64.wrap (i + 1)) ⟨h2, by simp only [hw]; omega, by simp only [hw]; omega, g3⟩ (by simp only [hw]; omega)
      case neg =>
        rcases hop with hop | hop | hop | hop | hop | hop
        · obtain ⟨x2, hx2⟩ : ∃ z, z = openS x nn := ⟨_, rfl⟩
          obtain ⟨y2, hy2⟩ : ∃ z, z = openS y nn := ⟨_, rfl⟩
          have c1 := open_ok x nn
          have c2 := ropen_ok y nn
          rw [← hx2] at c1
          rw [← hy2, ← (open_same h nn).1, ← (open_same h nn).2.1, ← (open_same h nn).2.2] at c2
          have h2 : Rs x2 y2 := by rw [hx2, hy2]; exact open_rs h nn
          generalize openP x nn = P2 at c1 c2
          generalize openT x nn = T2 at c1 c2
          generalize openE x nn = E2 at c1 c2
          clear hx2 hy2
          have hn2 := h2.n
          have hl2 := len_same h2
          repeat' (conv => whnf); first
           | (refine bcase_of (fun hr => ?_) (fun hr => ?_) <;> (try simp only [hop, hn2, hl2, decide_eq_true_eq, decide_eq_false_iff_not] at hr) <;> try (exfalso; first | omega | (simp at hr; done)))
           | (apply And.intro; · first | exact Nat.le_of_ble_eq_true rfl | decide | exact ⟨by omega, by rw [hlen]; omega⟩ | decide | (show indep _ _ = true; kernel_rfl))
           | (apply Exists.intro; apply And.intro; · first | exact rfl | exact (show lget _ _ = some (actE (kd, nn, pp, tt')) by rw [lget_eq, List.getElem?_map, hx]; rfl))
           | (apply Exists.intro; apply Exists.intro; apply Exists.intro; apply And.intro; · first | (apply ATriple.call (c1) <;> rfl) | (apply ATriple.call (c2) <;> rfl) | (apply ATriple.call (told_ok h2 pp tt' nn hnn) <;> rfl) | (apply ATriple.call (told_ok h2 pp tt' nn hnn) <;> rfl) | (apply ATriple.call (now_ok x2.k x2.l x2.n x2.a x2.b x2.c x2.d x2.e x2.f) <;> rfl) | (apply ATriple.call (len_ok x2.k x2.l x2.n x2.a x2.b x2.c x2.d x2.e x2.f) <;> rfl) | (apply ATriple.call (rlen_ok y2.k y2.l y2.n y2.a y2.b y2.c y2.d y2.e y2.f) <;> rfl))
           | fail
          all_goals (conv => whnf)
          refine VLoop.norm [2, 9, 10, 11] [38, 42] ?_
          conv => whnf
          refine ⟨pure_acts l, ?_⟩
          conv => whnf
          refine ih (x2, y2, IntKind.i64.wrap (i + 1)) ⟨h2, by simp only [hw]; omega, by simp only [hw]; omega, g3⟩ (by simp only [hw]; omega)
        · obtain ⟨x2, hx2⟩ : ∃ z, z = openS x nn := ⟨_, rfl⟩
          obtain ⟨y2, hy2⟩ : ∃ z, z = openS y nn := ⟨_, rfl⟩
          have c1 := open_ok x nn
          have c2 := ropen_ok y nn
          rw [← hx2] at c1
          rw [← hy2, ← (open_same h nn).1, ← (open_same h nn).2.1, ← (open_same h nn).2.2] at c2
          have h2 : Rs x2 y2 := by rw [hx2, hy2]; exact open_rs h nn
          generalize openP x nn = P2 at c1 c2
          generalize openT x nn = T2 at c1 c2
          generalize openE x nn = E2 at c1 c2
          clear hx2 hy2
          have hn2 := h2.n
          have hl2 := len_same h2
          repeat' (conv => whnf); first
           | (refine bcase_of (fun hr => ?_) (fun hr => ?_) <;> (try simp only [hop, hn2, hl2, decide_eq_true_eq, decide_eq_false_iff_not] at hr) <;> try (exfalso; first | omega | (simp at hr; done)))
           | (apply And.intro; · first | exact Nat.le_of_ble_eq_true rfl | decide | exact ⟨by omega, by rw [hlen]; omega⟩ | decide | (show indep _ _ = true; kernel_rfl))
           | (apply Exists.intro; apply And.intro; · first | exact rfl | exact (show lget _ _ = some (actE (kd, nn, pp, tt')) by rw [lget_eq, List.getElem?_map, hx]; rfl))
           | (apply Exists.intro; apply Exists.intro; apply Exists.intro; apply And.intro; · first | (apply ATriple.call (c1) <;> rfl) | (apply ATriple.call (c2) <;> rfl) | (apply ATriple.call (told_ok h2 pp tt' nn hnn) <;> rfl) | (apply ATriple.call (told_ok h2 pp tt' nn hnn) <;> rfl) | (apply ATriple.call (now_ok x2.k x2.l x2.n x2.a x2.b x2.c x2.d x2.e x2.f) <;> rfl) | (apply ATriple.call (len_ok x2.k x2.l x2.n x2.a x2.b x2.c x2.d x2.e x2.f) <;> rfl) | (apply ATriple.call (rlen_ok y2.k y2.l y2.n y2.a y2.b y2.c y2.d y2.e y2.f) <;> rfl))
           | fail
          all_goals (conv => whnf)
          refine VLoop.norm [2, 9, 10, 11] [38, 42] ?_
          conv => whnf
          refine ⟨pure_acts l, ?_⟩
          conv => whnf
          refine ih (x2, y2, IntKind.i64.wrap (i + 1)) ⟨h2, by simp only [hw]; omega, by simp only [hw]; omega, g3⟩ (by simp only [hw]; omega)
        · obtain ⟨x2, hx2⟩ : ∃ z, z = openS x nn := ⟨_, rfl⟩
          obtain ⟨y2, hy2⟩ : ∃ z, z = openS y nn := ⟨_, rfl⟩
          have c1 := open_ok x nn
          have c2 := ropen_ok y nn
          rw [← hx2] at c1
          rw [← hy2, ← (open_same h nn).1, ← (open_same h nn).2.1, ← (open_same h nn).2.2] at c2
          have h2 : Rs x2 y2 := by rw [hx2, hy2]; exact open_rs h nn
          generalize openP x nn = P2 at c1 c2
          generalize openT x nn = T2 at c1 c2
          generalize openE x nn = E2 at c1 c2
          clear hx2 hy2
          have hn2 := h2.n
          have hl2 := len_same h2
          repeat' (conv => whnf); first
           | (refine bcase_of (fun hr => ?_) (fun hr => ?_) <;> (try simp only [hop, hn2, hl2, decide_eq_true_eq, decide_eq_false_iff_not] at hr) <;> try (exfalso; first | omega | (simp at hr; done)))
           | (apply And.intro; · first | exact Nat.le_of_ble_eq_true rfl | decide | exact ⟨by omega, by rw [hlen]; omega⟩ | decide | (show indep _ _ = true; kernel_rfl))
           | (apply Exists.intro; apply And.intro; · first | exact rfl | exact (show lget _ _ = some (actE (kd, nn, pp, tt')) by rw [lget_eq, List.getElem?_map, hx]; rfl))
           | (apply Exists.intro; apply Exists.intro; apply Exists.intro; apply And.intro; · first | (apply ATriple.call (c1) <;> rfl) | (apply ATriple.call (c2) <;> rfl) | (apply ATriple.call (told_ok h2 pp tt' nn hnn) <;> rfl) | (apply ATriple.call (told_ok h2 pp tt' nn hnn) <;> rfl) | (apply ATriple.call (now_ok x2.k x2.l x2.n x2.a x2.b x2.c x2.d x2.e x2.f) <;> rfl) | (apply ATriple.call (len_ok x2.k x2.l x2.n x2.a x2.b x2.c x2.d x2.e x2.f) <;> rfl) | (apply ATriple.call (rlen_ok y2.k y2.l y2.n y2.a y2.b y2.c y2.d y2.e y2.f) <;> rfl))
           | fail
          all_goals (conv => whnf)
          refine VLoop.norm [2, 9, 10, 11] [38, 42] ?_
          conv => whnf
          refine ⟨pure_acts l, ?_⟩
          conv => whnf
          refine ih (x2, y2, IntKind.i64.wrap (i + 1)) ⟨h2, by simp only [hw]; omega, by simp only [hw]; omega, g3⟩ (by simp only [hw]; omega)
        · obtain ⟨x2, hx2⟩ : ∃ z, z = closeS x pp tt' := ⟨_, rfl⟩
          obtain ⟨y2, hy2⟩ : ∃ z, z = rcloseS y pp tt' := ⟨_, rfl⟩
          have c1 := close_ok x pp tt'
          have c2 := rclose_ok y pp tt'
          rw [← hx2] at c1
          rw [← hy2, ← (close_rs h pp tt').1] at c2
          have h2 : Rs x2 y2 := by rw [hx2, hy2]; exact (close_rs h pp tt').2
          generalize closeE x pp tt' = E2 at c1 c2
          clear hx2 hy2
          have hn2 := h2.n
          have hl2 := len_same h2
          repeat' (conv => whnf); first
           | (refine bcase_of (fun hr => ?_) (fun hr => ?_) <;> (try simp only [hop, hn2, hl2, decide_eq_true_eq, decide_eq_false_iff_not] at hr) <;> try (exfalso; first | omega | (simp at hr; done)))
           | (apply And.intro; · first | exact Nat.le_of_ble_eq_true rfl | decide | exact ⟨by omega, by rw [hlen]; omega⟩ | decide | (show indep _ _ = true; kernel_rfl))
           | (apply Exists.intro; apply And.intro; · first | exact rfl | exact (show lget _ _ = some (actE (kd, nn, pp, tt')) by rw [lget_eq, List.getElem?_map, hx]; rfl))
           | (apply Exists.intro; apply Exists.intro; apply Exists.intro; apply And.intro; · first | (apply ATriple.call (c1) <;> rfl) | (apply ATriple.call (c2) <;> rfl) | (apply ATriple.call (told_ok h2 pp tt' nn hnn) <;> rfl) | (apply ATriple.call (told_ok h2 pp tt' nn hnn) <;> rfl) | (apply ATriple.call (now_ok x2.k x2.l x2.n x2.a x2.b x2.c x2.d x2.e x2.f) <;> rfl) | (apply ATriple.call (len_ok x2.k x2.l x2.n x2.a x2.b x2.c x2.d x2.e x2.f) <;> rfl) | (apply ATriple.call (rlen_ok y2.k y2.l y2.n y2.a y2.b y2.c y2.d y2.e y2.f) <;> rfl))
           | fail
          all_goals (conv => whnf)
          refine VLoop.norm [2, 9, 10, 11] [38, 42] ?_
          conv => whnf
          refine ⟨pure_acts l, ?_⟩
          conv => whnf
          refine ih (x2, y2, IntKind.i64.wrap (i + 1)) ⟨h2, by simp only [hw]; omega, by simp only [hw]; omega, g3⟩ (by simp only [hw]; omega)
        · obtain ⟨x2, hx2⟩ : ∃ z : Ss, z = { x with n := tickT x.n nn } := ⟨_, rfl⟩
          obtain ⟨y2, hy2⟩ : ∃ z : Ss, z = { y with n := tickT y.n nn } := ⟨_, rfl⟩
          have c1 : ATriple Try.prog gv noRep 16 [.ref (0, 0) 0, i64V nn] [.box (cellsS x)] (.tup []) [.box (cellsS x2)] none := by rw [hx2]; exact tick_ok x.k x.l x.n x.a x.b x.c x.d x.e x.f nn (h.n ▸ h.nin)
          have c2 : ATriple Try.prog gv noRep 17 [.ref (0, 0) 0, i64V nn] [.box (rcellsS y)] (.tup []) [.box (rcellsS y2)] none := by rw [hy2]; exact rtick_ok y.k y.l y.n y.a y.b y.c y.d y.e y.f nn h.nin
          have h2 : Rs x2 y2 := by rw [hx2, hy2]; exact tick_rs h nn
          clear hx2 hy2
          have hn2 := h2.n
          have hl2 := len_same h2
          repeat' (conv => whnf); first
           | (refine bcase_of (fun hr => ?_) (fun hr => ?_) <;> (try simp only [hop, hn2, hl2, decide_eq_true_eq, decide_eq_false_iff_not] at hr) <;> try (exfalso; first | omega | (simp at hr; done)))
           | (apply And.intro; · first | exact Nat.le_of_ble_eq_true rfl | decide | exact ⟨by omega, by rw [hlen]; omega⟩ | decide | (show indep _ _ = true; kernel_rfl))
           | (apply Exists.intro; apply And.intro; · first | exact rfl | exact (show lget _ _ = some (actE (kd, nn, pp, tt')) by rw [lget_eq, List.getElem?_map, hx]; rfl))
           | (apply Exists.intro; apply Exists.intro; apply Exists.intro; apply And.intro; · first | (apply ATriple.call (c1) <;> rfl) | (apply ATriple.call (c2) <;> rfl) | (apply ATriple.call (told_ok h2 pp tt' nn hnn) <;> rfl) | (apply ATriple.call (told_ok h2 pp tt' nn hnn) <;> rfl) | (apply ATriple.call (now_ok x2.k x2.l x2.n x2.a x2.b x2.c x2.d x2.e x2.f) <;> rfl) | (apply ATriple.call (len_ok x2.k x2.l x2.n x2.a x2.b x2.c x2.d x2.e x2.f) <;> rfl) | (apply ATriple.call (rlen_ok y2.k y2.l y2.n y2.a y2.b y2.c y2.d y2.e y2.f) <;> rfl))
           | fail
          all_goals (conv => whnf)
          refine VLoop.norm [2, 9, 10, 11] [38, 42] ?_
          conv => whnf
          refine ⟨pure_acts l, ?_⟩
          conv => whnf
          refine ih (x2, y2, IntKind.i64.wrap (i + 1)) ⟨h2, by simp only [hw]; omega, by simp only [hw]; omega, g3⟩ (by simp only [hw]; omega)
        · have h2 : Rs x y := h
          have hn2 := h2.n
          have hl2 := len_same h2
          repeat' (conv => whnf); first
           | (refine bcase_of (fun hr => ?_) (fun hr => ?_) <;> (try simp only [hop, hn2, hl2, decide_eq_true_eq, decide_eq_false_iff_not] at hr) <;> try (exfalso; first | omega | (simp at hr; done)))
           | (apply And.intro; · first | exact Nat.le_of_ble_eq_true rfl | decide | exact ⟨by omega, by rw [hlen]; omega⟩ | decide | (show indep _ _ = true; kernel_rfl))
           | (apply Exists.intro; apply And.intro; · first | exact rfl | exact (show lget _ _ = some (actE (kd, nn, pp, tt')) by rw [lget_eq, List.getElem?_map, hx]; rfl))
           | (apply Exists.intro; apply Exists.intro; apply Exists.intro; apply And.intro; · first | (apply ATriple.call (told_ok h2 pp tt' nn hnn) <;> rfl) | (apply ATriple.call (told_ok h2 pp tt' nn hnn) <;> rfl) | (apply ATriple.call (now_ok x.k x.l x.n x.a x.b x.c x.d x.e x.f) <;> rfl) | (apply ATriple.call (len_ok x.k x.l x.n x.a x.b x.c x.d x.e x.f) <;> rfl) | (apply ATriple.call (rlen_ok y.k y.l y.n y.a y.b y.c y.d y.e y.f) <;> rfl))
           | fail
          all_goals (conv => whnf)
          refine VLoop.norm [2, 9, 10, 11] [38, 42] ?_
          conv => whnf
          refine ⟨pure_acts l, ?_⟩
          conv => whnf
          refine ih (x, y, IntKind.i64.wrap (i + 1)) ⟨h2, by simp only [hw]; omega, by simp only [hw]; omega, g3⟩ (by simp only [hw]; omega)
end Go.Proofs.Ythgalldffgaddaa
