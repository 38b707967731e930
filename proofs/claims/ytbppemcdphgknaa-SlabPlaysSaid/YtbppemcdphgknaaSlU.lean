/- Chapter 14: SlabPlays. -/
import Derived.Test.YtbppemcdphgknaaSlU0
import Derived.Test.YtbppemcdphgknaaSlU1
import Derived.Test.YtbppemcdphgknaaSlU2
set_option linter.unusedVariables false
set_option linter.unusedSimpArgs false
namespace Go.Proofs.Ytbppemcdphgknaa
open Go Go.Vm
set_option maxRecDepth 100000
set_option maxHeartbeats 40000000
set_option linter.unusedSimpArgs false
set_option linter.unusedVariables false
theorem plays_ok (room : Int) (l : List Ac) (hk : ∀ a ∈ l, 0 ≤ a.k ∧ a.k ≤ 255) : PTriple Try.prog gv 4 [i64V room, acV l] (.bool true) := by
  have pA := pure_A l
  have lA : (l.map encA).length = l.length := by simp
  by_cases hlen : l.length ≤ 80
  case neg =>
    refine PTriple.of_body (C := cxP) Try.func4 rfl (by kernel_rfl) (mixedOf _) fun E hE => ?_
    repeat' (conv => whnf); first
     | (refine bcase_of (fun hr => ?_) (fun hr => ?_) <;> (try simp at hr) <;> try omega)
     | (apply And.intro; · first | exact Nat.le_of_ble_eq_true rfl | (show indep _ _ = true; kernel_rfl) | decide | exact ⟨by decide, by decide⟩ | exact ⟨Nat.le_of_ble_eq_true rfl, allOne_of rfl⟩)
     | (apply Exists.intro; apply And.intro; · first | exact rfl | exact wakes_ok)
     | fail
    all_goals (conv => whnf)
    all_goals rfl
  case pos =>
    have c0 := newF room
    have c14 := new14 room
    have hJ0 := J.start room
    obtain ⟨cap, hcap⟩ : ∃ c, c = capOf room := ⟨_, rfl⟩
    rw [← hcap] at c0 c14 hJ0
    have hN0 : (List.replicate cap.toNat false).length = cap.toNat := by simp
    have hN1 : (List.replicate cap.toNat (none : Option (List En))).length = cap.toNat := by simp
    refine PTriple.of_body (C := cxP) Try.func4 rfl (by kernel_rfl) (mixedOf _) fun E hE => ?_
    repeat' (conv => whnf); first
     | (refine bcase_of (fun hr => ?_) (fun hr => ?_) <;> (try simp at hr) <;> try omega)
     | (apply And.intro; · first | exact Nat.le_of_ble_eq_true rfl | (show indep _ _ = true; kernel_rfl) | decide | exact ⟨by decide, by decide⟩ | exact ⟨Nat.le_of_ble_eq_true rfl, allOne_of rfl⟩)
     | (apply Exists.intro; apply And.intro; · first | exact rfl)
     | (apply Exists.intro; apply Exists.intro; apply Exists.intro; apply And.intro; · first | (refine ATriple.callN (c0) ?_ ?_ ?_ <;> rfl) | (refine ATriple.callN (c14) ?_ ?_ ?_ <;> rfl))
     | fail
    all_goals (conv => whnf)
    refine VLoop.weak [.opn (23, 1) [0, 1]] ?_
    conv => whnf
    refine ⟨⟨rfl, rfl⟩, ?_⟩
    conv => whnf
    refine VLoop.norm [0, 1, 5, 6, 7] [20, 22, 0, 1] ?_
    repeat' (conv => whnf); first
     | (apply And.intro; · first | exact Nat.le_of_ble_eq_true rfl | (show indep _ _ = true; kernel_rfl) | decide | exact pA | exact pure_B' _ | exact pure_X _)
     | (apply Exists.intro; apply And.intro; · first | exact rfl)
     | fail
    generalize hT0 : List.replicate cap.toNat false = T0 at *
    generalize hX0 : List.replicate cap.toNat (none : Option (List En)) = X0 at *
    obtain ⟨N, hN⟩ : ∃ N, N = cap.toNat := ⟨_, rfl⟩
    rw [← hN] at hN0 hN1
    change VLoop cxP E b4 _ _
    refine VLoop.inv (fun z : ZP => stP room l cap N z.i z.taken z.low z.L z.T z.X z.made) (fun z => z.i ≤ l.length ∧ z.T.length = N ∧ J cap z.taken z.low z.L z.T z.X z.made z.i) (fun z => l.length - z.i) ⟨0, 0, 0, [], T0, X0, 0⟩ ⟨Nat.zero_le _, hN0, hJ0⟩ (by rw [hN0, hN1]; rfl) ?_
    rintro ⟨i, taken, low, L, T, X, made⟩ ⟨him, hTN, h⟩ ih
    simp only at him hTN h ih
    show VLoop cxP E b4 (stP room l cap N i taken low L T X made) _
    clear hJ0 hT0 hX0 hN0 hN1 c0 c14
    have hw : IntKind.i64.wrap ((i : Int) + 1) = ((i + 1 : Nat) : Int) := wrap64 (by omega) (by omega)
    have hXN : X.length = N := by rw [h.lenX, hTN]
    by_cases hgo : i < l.length
    case neg =>
      refine VLoop.unroll hE (mixedOf _) ?_
      repeat' (conv => whnf); first
       | (refine bcase_of (fun hr => ?_) (fun hr => ?_) <;> (try simp at hr) <;> try omega)
       | (apply And.intro; · first | exact Nat.le_of_ble_eq_true rfl | (show indep _ _ = true; kernel_rfl) | decide | exact ⟨by decide, by decide⟩ | exact ⟨Nat.le_of_ble_eq_true rfl, allOne_of rfl⟩)
       | (apply Exists.intro; apply And.intro; · first | exact rfl | exact none_ok | exact wakes_ok)
       | fail
      all_goals (conv => whnf)
      all_goals rfl
    case pos =>
      obtain ⟨a, ha⟩ : ∃ a, l[i]? = some a := ⟨_, List.getElem?_eq_getElem hgo⟩
      have ga : lget (l.map encA) ((i : Int).toNat) = some (encA a) := by rw [lget_eq, Int.toNat_natCast, List.getElem?_map, ha]; rfl
      have cL := lightL_ok a.l
      have pa := pure_E a.l
      obtain ⟨hk0, hk1⟩ := hk a (List.mem_of_getElem? ha)
      cases hb : lightL a.l with
      | false =>
        rw [hb] at cL
        refine VLoop.unroll hE (mixedOf _) ?_
        repeat' (conv => whnf); first
         | (refine bcase_of (fun hr => ?_) (fun hr => ?_) <;> (try simp at hr) <;> try omega)
         | (apply And.intro; · first | exact Nat.le_of_ble_eq_true rfl | (show indep _ _ = true; kernel_rfl) | decide | exact ⟨by omega, by omega⟩ | exact pa | exact ⟨by decide, by decide⟩ | exact ⟨Nat.le_of_ble_eq_true rfl, allOne_of rfl⟩)
         | (apply Exists.intro; apply And.intro; · first | exact rfl | exact cL | exact wakes_ok | exact ga)
         | fail
        all_goals (conv => whnf)
        all_goals rfl
      | true =>
        rw [hb] at cL
        obtain ⟨hal, hae⟩ := light_E hb
        have hT5 : a.k.tmod 5 = 0 ∨ a.k.tmod 5 = 1 ∨ a.k.tmod 5 = 2 ∨ a.k.tmod 5 = 3 ∨ a.k.tmod 5 = 4 := by
          obtain ⟨n, hn⟩ := Int.eq_ofNat_of_zero_le hk0
          rw [hn]
          have : ((n : Int).tmod 5) = ((n % 5 : Nat) : Int) := rfl
          rw [this]; omega
        by_cases hm : a.k ≥ 128
        case pos =>
          rcases hT5 with hkd | hkd | hkd | hkd | hkd
          · exact plays_0m hE room l cap N i taken low L T X made hTN h ih hgo hlen ha hb hkd hm
          · exact plays_1m hE room l cap N i taken low L T X made hTN h ih hgo hlen ha hb hkd hm
          · exact plays_2m hE room l cap N i taken low L T X made hTN h ih hgo hlen ha hb hkd hm
          · exact plays_3m hE room l cap N i taken low L T X made hTN h ih hgo hlen ha hb hkd hm
          · exact plays_4m hE room l cap N i taken low L T X made hTN h ih hgo hlen ha hb hkd hm
        case neg =>
          rcases hT5 with hkd | hkd | hkd | hkd | hkd
          · exact plays_0n hE room l cap N i taken low L T X made hTN h ih hgo hlen ha hb hkd hm
          · exact plays_1n hE room l cap N i taken low L T X made hTN h ih hgo hlen ha hb hkd hm
          · exact plays_2n hE room l cap N i taken low L T X made hTN h ih hgo hlen ha hb hkd hm
          · exact plays_3n hE room l cap N i taken low L T X made hTN h ih hgo hlen ha hb hkd hm
          · exact plays_4n hE room l cap N i taken low L T X made hTN h ih hgo hlen ha hb hkd hm
abbrev runSh : Sh := .pair (.int .i64) (.pair (.int .i64) .unit)
abbrev celSh : Sh := .pair (.int .i64) (.pair (.pair (.int .i64) (.pair (.int .i64) .unit)) (.pair (.pair (.slice runSh) (.pair (.slice runSh) .unit)) .unit))
abbrev entSh : Sh := .pair (.int .i64) (.pair (.int .i64) (.pair celSh .unit))
abbrev actSh : Sh := .pair (.int .u8) (.pair (.int .i64) (.pair (.slice entSh) .unit))
def bagOf (l : List runSh.T) : List (Int × Int) := l.map fun r => (r.1, r.2.1)
def enOf (e : entSh.T) : En := ⟨e.1, e.2.1, e.2.2.1.1, e.2.2.1.2.1.1, e.2.2.1.2.1.2.1, bagOf e.2.2.1.2.2.1.1, bagOf e.2.2.1.2.2.1.2.1⟩
def acOf (a : actSh.T) : Ac := ⟨a.1, a.2.1, a.2.2.1.map enOf⟩
theorem bag_enc (l : List runSh.T) : (bagOf l).map encR = l.map runSh.enc := by
  rw [bagOf, List.map_map]; rfl
theorem ent_enc (e : entSh.T) : encE (enOf e) = entSh.enc e := by
  show [i64V e.1, i64V e.2.1, i64V e.2.2.1.1, i64V e.2.2.1.2.1.1, i64V e.2.2.1.2.1.2.1, .lst 2 ((bagOf e.2.2.1.2.2.1.1).map encR), .lst 2 ((bagOf e.2.2.1.2.2.1.2.1).map encR)] = _
  rw [bag_enc, bag_enc]; rfl
theorem act_enc (a : actSh.T) : encA (acOf a) = actSh.enc a := by
  show [V.int .u8 a.1, i64V a.2.1, .lst 7 ((a.2.2.1.map enOf).map encE)] = _
  rw [List.map_map, show (encE ∘ enOf) = entSh.enc from funext ent_enc]; rfl
theorem acts_arg (l : List actSh.T) : acV (l.map acOf) = Sh.argV (.slice actSh) l := by
  show V.lst 3 _ = V.lst 3 _
  rw [List.map_map, show (encA ∘ acOf) = actSh.enc from funext act_enc]
end Go.Proofs.Ytbppemcdphgknaa
