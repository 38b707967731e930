/- TagTells over the seat's row, proved; conditions: none but the row's own. -/
import Derived.Test.YtbpfkofokglogaaDoorTagE
set_option linter.unusedVariables false
set_option linter.unusedSimpArgs false
namespace Go.Proofs.YtbpfkofokglogaaDoor
open Go Go.Vm
open Go.ChangeShapes Go.WideShapes Go.ChangeAt Go.WideMaps Go.WideElems Go.RowKit
set_option maxRecDepth 100000
set_option linter.unusedSimpArgs false

theorem Below.of_grown {M M' : Mem} {W W' : World} (h : Vm.Grown M W M' W') : Below W.heap.size W W' :=
  ⟨h.os, h.tape, h.output, h.size, h.heap⟩

theorem laid_heap : ∀ (w w' : World) (args : Array Value), w.heap = w'.heap → (fun (w : World) (_ : Array Value) => laidMetH Tryd.prog laidRows w) w args → (fun (w : World) (_ : Array Value) => laidMetH Tryd.prog laidRows w) w' args := fun _ _ _ hh h => h.of_heap hh

theorem door_met (os : Os) (args : Array Value) : laidMetH Tryd.prog laidRows ((World.doorLaid Tryd.prog 400 os).forCall (fun _ _ => 0) ⟨#[], args, []⟩).memory :=
  laidMetH_of_parts3 (fuel := 8) (laidMet_of_run' 8 (by kernel_rfl) (by kernel_rfl)) (by kernel_rfl) (by kernel_rfl)

theorem list2 {α : Type} {l : List α} (h : l.length = 2) : ∃ a b, l = [a, b] := by
  match l, h with
  | [a, b], _ => exact ⟨a, b, rfl⟩

theorem open_bools2 {H : Type} {enc : TypeId × Value → H} {W : World} {base : Nat} {sp : Nat → Bool} {hd : Bool} {cs : Array Value} {d : DataW H} {p : List MemPlace} (h : DataW.Trod enc Tryd.prog W base sp hd 22 (.agg cs) d p) (hs : cs.size = 2) :
    ∃ wi ii, cs = #[.bool wi, .bool ii] := by
  have c4 : Tryd.prog.cellsOf 4 = 1 := by kernel_rfl
  obtain ⟨fuel, h2f⟩ := h
  obtain ⟨xs, m, _, _, hlen, hn, hel⟩ := DataW.trod_array Tryd.underlying22 h2f
  obtain ⟨c0, c1, hc⟩ := list2 (show cs.toList.length = 2 from hs)
  obtain ⟨x0, x1, hx⟩ := list2 hn
  have e0 := hel 0 (by decide)
  have e1 := hel 1 (by decide)
  have e : (Value.agg cs).cells.toList = [c0, c1] := hc
  rw [c4, e, hx] at e0 e1
  obtain ⟨b0, q0, _⟩ := DataW.trod_bool Tryd.underlying4 (show DataW.trod enc Tryd.prog W base sp hd m 4 [c0] = some x0 from e0)
  obtain ⟨b1, q1, _⟩ := DataW.trod_bool Tryd.underlying4 (show DataW.trod enc Tryd.prog W base sp hd m 4 [c1] = some x1 from e1)
  cases q0; cases q1
  exact ⟨b0, b1, by rw [← Array.toArray_toList (xs := cs), hc]⟩

theorem tagTells_lifted (os : Os) (started : os.Started) (H : Type) (enc : TypeId × Value → H) :
    ReturnsInHanded {} Tryd.checked os 3 .any (fun w args => (Rows.tagTellsSpec.pre enc Tryd.prog Tryd.f3 [] false w args ∧ laidMetH Tryd.prog laidRows w) ∧ sizedMet enc Tryd.prog Tryd.f3 (OpenSpec.ofChange Rows.tagTellsSpec) false w args)
      (Rows.tagTellsSpec.post enc Tryd.prog Tryd.f3 false true false false) := by
  refine returnsInHanded_of_change_and (C := Tryd.checked) (X := fun w _ => laidMetH Tryd.prog laidRows w) laid_heap own started (by kernel_rfl) Tryd.func3
    (ChangeSpec.witness_shaped (enc := enc) (C := Tryd.checked) (os := os) (X := fun w _ => laidMetH Tryd.prog laidRows w) false (World.doorLaid Tryd.prog 400 os) #[.int .i64 0, .int .i64 0, .agg #[.bool false, .bool false]] 8 rfl (World.shaped_of_RefB (by kernel_rfl) (by kernel_rfl)) (by kernel_rfl) (by kernel_rfl) (by kernel_rfl) (door_met os _)) ?_
  intro W base args ds gs before hval0 hW _ _ hL _
  have hval : ∀ (j : Nat) t v, Tryd.f3.params[j]? = some t → args[j]? = some v → Value.okWide Tryd.prog W .any base t v := hval0
  have hW' := hW
  obtain ⟨p, q, hA0, hV, rfl, hfz, hnd⟩ := hW
  have hA : DataW.TrodAll enc Tryd.prog W 0 (fun _ => true) true Tryd.f3.params.toList args.toList ds p := hA0
  rw [Tryd.params3] at hA hval
  obtain ⟨v0, v1, v2, d0, d1, d2, p0, p1, p2, rfl, rfl, rfl, h0, h1, h2⟩ := trodAll_three hA
  obtain ⟨rfl, rfl⟩ := trodVars_none hV
  obtain ⟨a, rfl, rfl, rfl, wa⟩ := open_int Tryd.underlying3 (hval 0 3 v0 rfl rfl) h0
  obtain ⟨b, rfl, rfl, rfl, wb⟩ := open_int Tryd.underlying3 (hval 1 3 v1 rfl rfl) h1
  have ok2 := hval 2 22 v2 rfl rfl
  simp only [Value.okWide, Tryd.underlying22] at ok2
  obtain ⟨cs, rfl, hsz, _⟩ := ok2
  have c22 : Tryd.prog.cellsOf 22 = 2 := by kernel_rfl
  have c4 : Tryd.prog.cellsOf 4 = 1 := by kernel_rfl
  have hlt : ∀ x ∈ p2, x.block < W.heap.size := fun x hx => hW'.lt x (by simp [hx])
  have hab := open_bools2 h2 (hsz.trans c22)
  obtain ⟨wi, ii, rfl⟩ := hab
  have hargs : VsRel (fun _ => none) (memOf W) [int1 a, int1 b, .agg [.bool wi, .bool ii]] [.int .i64 a, .int .i64 b, .agg #[.bool wi, .bool ii]] := by
    have hb : VsRel (fun _ => none) (memOf W) [.bool wi, .bool ii] [.bool wi, .bool ii] := .cons (.bool _) (.cons (.bool _) .nil)
    exact .cons (.int _ _) (.cons (.int _ _) (.cons (.agg (cs' := [.bool wi, .bool ii]) hb.1 hb.2) .nil))
  refine ((ok3 a b wi ii).2 W (memOf W) _ (globOk hL) (memOk W) hargs).mono fun e W' he => ?_
  obtain ⟨r', M', rfl, hg, hr⟩ := he
  cases hr
  have hbl := Below.of_grown hg
  refine ⟨_, rfl, _, _, _, [], _, [], hW', trodAll_mk1 (shut_bool Tryd.underlying4 _), trodAll_cons_mk (shut_int Tryd.underlying3 wa) (trodAll_cons_mk (shut_int Tryd.underlying3 wb) (trodAll_mk1 (Below.trod laidOut (by kernel_rfl) (of_decide_eq_true (by kernel_rfl)) h2 hbl hlt))), rfl, hbl.frame _, fun h => by cases h⟩

theorem tagTells_holds : Rows.TagTellsSaid :=
  OpenClaim.holds_of_wide 3 Tryd.f3 rfl rfl rfl rfl rfl rfl rfl ⟨rfl, rfl, rfl, rfl, rfl⟩ rfl rfl rfl rfl rfl (by kernel_rfl) Tryd.func3 (by kernel_rfl)
    (of_decide_eq_true (by kernel_rfl)) (by unfold Func.isWrapper; first | (rw [if_pos (by decide +kernel)]; kernel_rfl) | (rw [if_neg (by decide +kernel)]; exact ⟨rfl, rfl⟩))
    (fun os started H enc _ => tagTells_lifted os started H enc)
#print axioms tagTells_holds
end Go.Proofs.YtbpfkofokglogaaDoor
