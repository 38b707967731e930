/- G5: merged. -/
import Derived.RangeFuncBox
import Derived.RangeFuncLeaves
import Derived.Shelf.Abstract
import Derived.WalkKit
import Derived.OwnWalkIn
import Derived.TacticsInMore
import Derived.LoopNIn
import Derived.LoopIn
import Derived.Maps.AppendAt
import Derived.Test.YtbppemcdphgknaaDoorProg
import Derived.KernelRfl
import Derived.Test.YtbppemcdphgknaaDoorG3
import Derived.Test.YtbppemcdphgknaaDoorG4
set_option linter.unusedVariables false
set_option linter.unusedSimpArgs false
/- slices.Values, AppendSeq, Collect at []int64: walked by the kit's laws. -/
namespace Go.Proofs.YtbppemcdphgknaaDoor
open Go Go.Proofs Go.RowKit Go.Shelf

attribute [local go_sem] Oper.semAt_some

/-- WHAT HAS COME WHEN k ROUNDS ARE OVER: f 0, .., f (k - 1). -/
def Sv.upto {α : Type} (f : Nat → α) (k : Nat) : List α := (List.range k).map f
theorem Sv.upto_succ {α : Type} (f : Nat → α) (k : Nat) : Sv.upto f (k + 1) = Sv.upto f k ++ [f k] := by simp [Sv.upto, List.range_succ]
theorem Sv.upto_length {α : Type} (f : Nat → α) (k : Nat) : (Sv.upto f k).length = k := by simp [Sv.upto]
theorem Sv.upto_all (zs : List Int) : Sv.upto (fun j => zs[j]?.getD 0) zs.length = zs := by
  apply List.ext_getElem
  · simp [Sv.upto]
  · intro i h1 h2
    simp [Sv.upto, h2]

set_option maxRecDepth 100000 in
set_option maxHeartbeats 2000000 in
/-- **slices.Values's closure: 'for _, v := range s { if !yield(v) { return } }': FOR EVERY LOOP BODY THAT KEEPS WHAT LAY BELOW n₀.** -/
theorem Sv.values1_in (F : Fence) (n : Nat) (h7 : F.fn 112) (hro : F.round = none) (hn : 1 ≤ n) (l Bs n₀ b off len cap : Nat) (zs : List Int) (hreach : len * 8 ≤ 140737488351232) (hb : b < n₀) (J Jx : List Int → World → Prop)
    (hY : ∀ pre x W, J pre W → pre.length < len → YieldAt F (n - 1) Tryd.prog l #[.int .i64 x] W fun e W' =>
      (e = .returned (.bool true) ∧ J (pre ++ [x]) W' ∧ Below n₀ W W') ∨ (e = .returned (.bool false) ∧ Jx (pre ++ [x]) W'))
    (W : World) (hBs : W.cell? ⟨Bs, 0, none⟩ = some (.slice (some ⟨b, off, none⟩) len cap)) (hc : ∀ j, j < len → W.cell? ⟨b, off + j, none⟩ = some (.int .i64 (zs[j]?.getD 0))) (h0 : J [] W) :
    CallsIn F n Tryd.prog 112 #[.func (.yield l) #[] #[], .pointer (some ⟨Bs, 0, none⟩)] W fun e W' => (∃ v, e = .returned v) ∧
      ((∃ ys, ys = Sv.upto (fun j => zs[j]?.getD 0) len ∧ J ys W') ∨ (∃ pre, (∃ k, k ≤ len ∧ pre = Sv.upto (fun j => zs[j]?.getD 0) k) ∧ Jx pre W')) := by
  refine callsIn_of_wp Tryd.func112 rfl h7 ?_ hro
  simp only [Tryd.ntmps112, List.size_toArray, List.length_cons, List.length_nil, Nat.reduceAdd, Nat.reduceSub, Array.replicate_succ, Array.replicate_zero, List.push_toArray, List.append_toArray, List.nil_append, List.cons_append]
  gi_wp2
  gi_loopw [7] (fun i wr => ∃ k : Nat, k ≤ len ∧ i = .int .i64 k ∧ J (Sv.upto (fun j => zs[j]?.getD 0) k) wr ∧ Below n₀ W wr)
    (fun i _ => len - (intOf i).toNat)
  case atStart => exact ⟨0, Nat.zero_le _, rfl, h0, Below.refl _ _⟩
  case round =>
    obtain ⟨k, hk, rfl, hJs, hnx⟩ := hrel
    have hcx : k < len → wr.cell? ⟨b, off + k, none⟩ = some (.int .i64 (zs[k]?.getD 0)) := fun h => (hnx.cell (p := ⟨b, off + k, none⟩) hb).trans (hc k h)
    by_cases hlt : k < len
    · obtain ⟨fn, tmps, assign, body, hy, hR⟩ := hY _ (zs[k]?.getD 0) wr hJs (by rw [Sv.upto_length]; exact hlt)
      have hcx' := hcx hlt
      gi_wp2
      refine hR.mono ?_
      rintro e W3 (⟨rfl, hJ3, hk3⟩ | ⟨rfl, hJx3⟩)
      · -- THE ROUND GOES ON
        gi_wp2
        go_roundw
        case rel => exact ⟨k + 1, by omega, by simp, by rw [Sv.upto_succ]; exact hJ3, hnx.trans hk3⟩
        case measure => simp [intOf]; omega
      · gi_wp2
        refine bodyPost_ret (results_none rfl _ _ _) rfl ?_
        exact ⟨⟨_, rfl⟩, .inr ⟨_, ⟨k + 1, by omega, (Sv.upto_succ _ _).symm⟩, hJx3⟩⟩
    · obtain rfl : k = len := by omega
      gi_wp2
      go_end0
      exact ⟨⟨_, rfl⟩, .inl ⟨_, rfl, hJs⟩⟩

theorem Sv.upto_take (zs : List Int) {k : Nat} (hk : k ≤ zs.length) : Sv.upto (fun j => zs[j]?.getD 0) k = zs.take k := by
  apply List.ext_getElem
  · simp [Sv.upto, hk]
  · intro i h1 h2
    have : i < zs.length := by simp [Sv.upto] at h1; omega
    simp [Sv.upto, this]

/-- THE SLICE VALUE sv HOLDS THE ints zs, in a block below n₀; or it is nil and there are none. -/
def Sv.Ints (n₀ : Nat) (W : World) (sv : Value) (zs : List Int) : Prop :=
  (sv = .slice none 0 0 ∧ zs = []) ∨ ∃ b off cap, sv = .slice (some ⟨b, off, none⟩) zs.length cap ∧ b < n₀ ∧ ∀ j, j < zs.length → W.cell? ⟨b, off + j, none⟩ = some (.int .i64 (zs[j]?.getD 0))
theorem Sv.Ints.below {n₀ : Nat} {A B : World} (h : Below n₀ A B) {sv : Value} {zs : List Int} : Sv.Ints n₀ A sv zs → Sv.Ints n₀ B sv zs
  | .inl e => .inl e
  | .inr ⟨b, off, cap, e, hb, hc⟩ => .inr ⟨b, off, cap, e, hb, fun j hj => (h.cell (p := ⟨b, off + j, none⟩) hb).trans (hc j hj)⟩

set_option maxRecDepth 100000 in
set_option maxHeartbeats 1000000 in
/-- .. at the nil slice: no round. -/
theorem Sv.values1_nil_in (F : Fence) (n : Nat) (h7 : F.fn 112) (hro : F.round = none) (l Bs : Nat) (J : List Int → World → Prop) (W : World) (hBs : W.cell? ⟨Bs, 0, none⟩ = some (.slice none 0 0)) (h0 : J [] W) :
    CallsIn F n Tryd.prog 112 #[.func (.yield l) #[] #[], .pointer (some ⟨Bs, 0, none⟩)] W fun e W' => (∃ v, e = .returned v) ∧ J [] W' := by
  refine callsIn_of_wp Tryd.func112 rfl h7 ?_ hro
  simp only [Tryd.ntmps112, List.size_toArray, List.length_cons, List.length_nil, Nat.reduceAdd, Nat.reduceSub, Array.replicate_succ, Array.replicate_zero, List.push_toArray, List.append_toArray, List.nil_append, List.cons_append]
  gi_wp2
  gi_loopw [7] (fun i wr => i = .int .i64 0 ∧ J [] wr) (fun _ _ => 0)
  case atStart => exact ⟨rfl, h0⟩
  case round =>
    obtain ⟨rfl, hJs⟩ := hrel
    gi_wp2
    go_end0
    exact ⟨⟨_, rfl⟩, hJs⟩

set_option maxHeartbeats 1000000 in
/-- **slices.Values(s)**: the slice value is boxed; the function value captures the box. -/
theorem Sv.values_in (F : Fence) (n : Nat) (h5 : F.fn 96) (hro : F.round = none) (a : Option Addr) (len cap : Nat) (w : World) :
    CallsIn F n Tryd.prog 96 #[.slice a len cap] w fun e w' => e = .returned (.func (.func 112) #[] #[.pointer (some ⟨w.heap.size, 0, none⟩)]) ∧ w' = w.alloc (.cells #[.slice a len cap] 125) := by
  refine callsIn_of_wp Tryd.func96 rfl h5 ?_ hro
  simp only [Tryd.ntmps96, List.size_toArray, List.length_cons, List.length_nil, Nat.reduceAdd, Nat.reduceSub, Array.replicate_succ, Array.replicate_zero, List.push_toArray, List.append_toArray, List.nil_append, List.cons_append]
  gi_wp2
  go_ret
  exact ⟨rfl, rfl⟩

/-- **slices.Values(s) HANDS BACK A VALUE THAT 'SeqStopsK', AT 'Kp := Below n₀'**: all of zs, in order; or a prefix. EVERY SLICE OF ints WITHIN THE REACH, THE nil ONE TOO. -/
theorem Sv.values_stops (F : Fence) (n : Nat) (h7 : F.fn 112) (hro : F.round = none) (hn : 1 ≤ n) (Bs n₀ : Nat) (sv : Value) (zs : List Int) (hreach : zs.length * 8 ≤ 140737488351232) (w : World) (hBs : Bs < w.heap.size) (hn₀ : n₀ ≤ w.heap.size)
    (hc : w.cell? ⟨Bs, 0, none⟩ = some sv) (hI : Sv.Ints n₀ w sv zs) :
    SeqStopsK F n Tryd.prog 112 #[.pointer (some ⟨Bs, 0, none⟩)] (fun x : Int => #[Value.int .i64 x]) (Below n₀) (fun ys => ys = zs) (fun pre => pre <+: zs) zs.length w := fun l J Jx W hW _ _ hY h0 => by
  have hc' := (hW.cell (p := ⟨Bs, 0, none⟩) hBs).trans hc
  rcases hI.below (hW.mono hn₀) with ⟨rfl, rfl⟩ | ⟨b, off, cap, rfl, hb, hcs⟩
  · exact (Sv.values1_nil_in F n h7 hro l Bs J W hc' h0).mono fun e W' ⟨he, hj⟩ => ⟨he, .inl ⟨_, rfl, hj⟩⟩
  · refine (Sv.values1_in F n h7 hro hn l Bs n₀ b off zs.length cap zs hreach hb J Jx hY W hc' hcs h0).mono ?_
    rintro e W' ⟨he, ⟨ys, rfl, hj⟩ | ⟨pre, ⟨k, hk, rfl⟩, hj⟩⟩
    · exact ⟨he, .inl ⟨_, Sv.upto_all zs, hj⟩⟩
    · exact ⟨he, .inr ⟨_, by rw [Sv.upto_take zs hk]; exact List.take_prefix _ _, hj⟩⟩


theorem Sv.info2 : (Tryd.prog.info? 2).map (fun i => (i.zero, i.size, i.bytes)) = some (some (.int .i64 0), 1, 8) := by kernel_rfl

set_option maxRecDepth 100000 in
set_option maxHeartbeats 2000000 in
/-- slices.AppendSeq(nil, slices.Values(zs)). -/
theorem Sv.append_in (F : Fence) (n : Nat) (h3 : F.fn 119) (h5 : F.fn 112) (hro : F.round = none) (hn : 3 ≤ n) (Bs : Nat) (sv : Value) (zs : List Int) (hlen : zs.length ≤ maxLen) (hbytes : zs.length * 8 ≤ 140737488351232) (w : World) (hBs : Bs < w.heap.size)
    (hc : w.cell? ⟨Bs, 0, none⟩ = some sv) (hI : Sv.Ints w.heap.size w sv zs) :
    CallsIn F n Tryd.prog 119 #[.slice none 0 0, .func (.func 112) #[] #[.pointer (some ⟨Bs, 0, none⟩)]] w fun e W' => ∃ v, e = .returned v ∧ W'.ownsRow w.heap.size 2 1 v zs.length (zs.map (Value.int .i64)) ∧ (v = .slice none 0 0 ↔ zs = []) ∧ Below w.heap.size w W' := by
  have h1 : 1 ≤ n := by omega
  obtain ⟨i0, hi, hz0, hz1, hz2⟩ := info_parts Sv.info2
  refine callsIn_of_wp_marks Tryd.func119 rfl h3 ?_ hro
  simp only [Tryd.ntmps119, List.size_toArray, List.length_cons, List.length_nil, Nat.reduceAdd, Nat.reduceSub, Array.replicate_succ, Array.replicate_zero, List.push_toArray, List.append_toArray, List.nil_append, List.cons_append]
  gi_wp2
  have bO := Boxed.new w 125 (.slice none 0 0)
  have hB0 : Below w.heap.size w (w.alloc (.cells #[.slice none 0 0] 125)) := (Below.refl _ w).alloc (Nat.le_refl _) _
  refine wpIn_rangeFunc_ownG hro h1 (gf := 112) (lb := #[.pointer (some ⟨Bs, 0, none⟩)]) rfl h5 (enters_of Tryd.func112 (by kernel_rfl) rfl)
    (Sv.values_stops F (n - 1) h5 hro (by omega) Bs w.heap.size sv zs hbytes _ (by simp; omega) (by simp) ((hB0.cell (p := ⟨Bs, 0, none⟩) hBs).trans hc) (hI.below hB0)) belowK_t (belowK_b (by simp)) (Below.refl _ _) (fun _ => rfl)
    (fun pre W => (∃ v, Boxed W w.heap.size 125 v ∧ W.ownsRow w.heap.size 2 1 v pre.length (pre.map (Value.int .i64)) ∧ (v = .slice none 0 0 ↔ pre = [])) ∧ Below w.heap.size w W)
    (fun _ _ _ => False)
    (OwnFrom.and (Own.from (holdsRow_own w.heap.size w.heap.size 125 2 1 (fun pre => pre.length) (fun pre => pre.map (Value.int .i64)) (fun pre v => v = .slice none 0 0 ↔ pre = [])) _) (ownFrom_below (Nat.le_refl _) (by simp)))
    (fun _ _ _ _ _ hs _ _ => hs)
    ⟨⟨_, bO, World.ownsRow_nil _ _ _ _, by simp⟩, hB0⟩
    (fun x => { tmps := #[.slice none 0 0, .func (.func 112) #[] #[.pointer (some ⟨Bs, 0, none⟩)], .pointer (some ⟨w.heap.size, 0, none⟩), undef, .slice none 0 0, .int .i64 x, .func (.func 112) #[] #[.pointer (some ⟨Bs, 0, none⟩)], .int .i64 x, undef, undef, undef, undef, undef], defers := [] }) ?assign ?body ?done ?stop
  case assign =>
    intro l x W K hK
    gi_wp2
    exact hK
  case body =>
    rintro l pre x W ⟨⟨v, hv, hrow, hnil⟩, hB⟩ hlt
    have hc := hv.cell
    gi_wp2_with (gi_at_builtin; refine wpListIn_append_own _ rfl _ _ 125 rfl w.heap.size 2 i0 (.int .i64 0) 1 8 Tryd.underlying125 hi hz0 hz1 hz2 rfl (by decide) _ _ _ rfl (hrow.alloc _) ⟨W.heap.size, 0, none⟩ 1 1 [.int .i64 x] rfl rfl (cell_one_new _ _ _) (by simp [Value.oneCell']) (by omega) (by omega) (by have := hB.size; simp; omega) ?_; intro v' w1 hown' hgrow _; obtain ⟨g', cap', rfl⟩ := ownsRow_succ hown'; obtain ⟨hv1, hv2, hr2, hk2, hb2⟩ := hv.appended (by decide) hrow hB.size (Nat.le_refl _) hown' hgrow; have hc1 := hv1.cell; have hf1 := hv1.frozen)
    exact ⟨hk2.from _, hb2, ⟨_, hv2, by simpa using hr2, by simp⟩, hB.trans hb2⟩
  case done =>
    rintro D ys W hD rfl ⟨⟨v, hv, hrow, hnil⟩, hB⟩ hK
    have hc := hv.cell
    gi_wp2
    refine ⟨by simp, .inl ⟨_, _, rfl, run_takeDeferred hK, ?_⟩⟩
    exact ⟨_, results_tmp rfl _ _ _, v, rfl, ownsRow_putObj hrow _ hK rfl, hnil, hB.trans (belowK_b (w := w) (Nat.le_refl _) W D _ _ (by simp at hD; omega) hK rfl rfl)⟩
  case stop =>
    rintro D c pre W _ _ h _
    exact h.elim

set_option maxHeartbeats 1000000 in
theorem Sv.collect_in (F : Fence) (n : Nat) (h0 : F.fn 110) (h3 : F.fn 119) (h5 : F.fn 112) (hro : F.round = none) (hn : 4 ≤ n) (Bs : Nat) (sv : Value) (zs : List Int) (hlen : zs.length ≤ maxLen) (hbytes : zs.length * 8 ≤ 140737488351232) (w : World) (hBs : Bs < w.heap.size)
    (hc : w.cell? ⟨Bs, 0, none⟩ = some sv) (hI : Sv.Ints w.heap.size w sv zs) :
    CallsIn F n Tryd.prog 110 #[.func (.func 112) #[] #[.pointer (some ⟨Bs, 0, none⟩)]] w fun e W' => ∃ v, e = .returned v ∧ W'.ownsRow w.heap.size 2 1 v zs.length (zs.map (Value.int .i64)) ∧ (v = .slice none 0 0 ↔ zs = []) ∧ Below w.heap.size w W' := by
  have h1 : 1 ≤ n := by omega
  refine callsIn_of_wp Tryd.func110 rfl h0 ?_ hro
  simp only [Tryd.ntmps110, List.size_toArray, List.length_cons, List.length_nil, Nat.reduceAdd, Nat.reduceSub, Array.replicate_succ, Array.replicate_zero, List.push_toArray, List.append_toArray, List.nil_append, List.cons_append]
  gi_wp2_with (gi_at_call 119; refine (Sv.append_in F (n - 1) h3 h5 hro (by omega) Bs sv zs hlen hbytes w hBs hc hI).mono ?_; rintro e w' ⟨v, rfl, hrow, hnil, hb⟩)
  go_ret
  exact ⟨v, rfl, hrow, hnil, hb⟩
#print axioms Sv.collect_in
end Go.Proofs.YtbppemcdphgknaaDoor
/- slices.Sort at a slice of one; slices.Sorted(slices.Values) of one. -/
namespace Go.Proofs.YtbppemcdphgknaaDoor
open Go Go.Proofs Go.RowKit Go.Shelf

attribute [local go_sem] Oper.semAt_some

set_option maxRecDepth 100000 in
set_option maxHeartbeats 1000000 in
theorem Sv.len64_in (F : Fence) (n : Nat) (h : F.fn 142) (hro : F.round = none) (w : World) :
    CallsIn F n Tryd.prog 142 #[.int .u64 1] w fun e w' => (∃ v, e = .returned v) ∧ w' = w := by
  refine callsIn_of_wp Tryd.func142 rfl h ?_ hro
  simp only [Tryd.ntmps142, List.size_toArray, List.length_cons, List.length_nil, Nat.reduceAdd, Nat.reduceSub, Array.replicate_succ, Array.replicate_zero, List.push_toArray, List.append_toArray, List.nil_append, List.cons_append]
  gi_wp2
  go_ret
  exact ⟨⟨_, rfl⟩, rfl⟩

set_option maxHeartbeats 1000000 in
theorem Sv.insertion_in (F : Fence) (n : Nat) (h : F.fn 132) (hro : F.round = none) (p : Option Addr) (cap : Nat) (w : World) :
    CallsIn F n Tryd.prog 132 #[.slice p 1 cap, .int .i64 0, .int .i64 1] w fun e w' => (∃ v, e = .returned v) ∧ w' = w := by
  refine callsIn_of_wp Tryd.func132 rfl h ?_ hro
  simp only [Tryd.ntmps132, List.size_toArray, List.length_cons, List.length_nil, Nat.reduceAdd, Nat.reduceSub, Array.replicate_succ, Array.replicate_zero, List.push_toArray, List.append_toArray, List.nil_append, List.cons_append]
  gi_wp2
  gi_loopw [6] (fun i wr => i = .int .i64 1 ∧ wr = w) (fun _ _ => 0)
  case atStart => exact ⟨rfl, rfl⟩
  case round =>
    obtain ⟨rfl, rfl⟩ := hrel
    gi_wp2
    go_end0
    exact ⟨⟨_, rfl⟩, rfl⟩

set_option maxHeartbeats 1000000 in
theorem Sv.pdq_in (F : Fence) (n : Nat) (h : F.fn 120) (h1 : F.fn 132) (hro : F.round = none) (hn : 2 ≤ n) (p : Option Addr) (cap : Nat) (lim : Value) (w : World) :
    CallsIn F n Tryd.prog 120 #[.slice p 1 cap, .int .i64 0, .int .i64 1, lim] w fun e w' => (∃ v, e = .returned v) ∧ w' = w := by
  have hn1 : 1 ≤ n := by omega
  refine callsIn_of_wp Tryd.func120 rfl h ?_ hro
  simp only [Tryd.ntmps120, List.size_toArray, List.length_cons, List.length_nil, Nat.reduceAdd, Nat.reduceSub, Array.replicate_succ, Array.replicate_zero, List.push_toArray, List.append_toArray, List.nil_append, List.cons_append]
  gi_wp2
  gi_loopw [1, 2, 8] (fun a b i wr => a = .int .i64 0 ∧ b = .int .i64 1 ∧ i = .bool true ∧ wr = w) (fun _ _ _ _ => 0)
  case atStart => exact ⟨rfl, rfl, rfl, rfl⟩
  case round =>
    obtain ⟨rfl, rfl, rfl, rfl⟩ := hrel
    gi_wp2_with (gi_at_call 132; refine (Sv.insertion_in F (n - 1) h1 hro _ _ _).mono ?_; rintro e w' ⟨⟨v, rfl⟩, rfl⟩)
    refine bodyPost_ret (results_none rfl _ _ _) rfl ?_
    exact ⟨⟨_, rfl⟩, rfl⟩

set_option maxHeartbeats 1000000 in
theorem Sv.len_in (F : Fence) (n : Nat) (h : F.fn 121) (h1 : F.fn 142) (hro : F.round = none) (hn : 2 ≤ n) (w : World) :
    CallsIn F n Tryd.prog 121 #[.int .u64 1] w fun e w' => (∃ v, e = .returned v) ∧ w' = w := by
  have hn1 : 1 ≤ n := by omega
  refine callsIn_of_wp Tryd.func121 rfl h ?_ hro
  simp only [Tryd.ntmps121, List.size_toArray, List.length_cons, List.length_nil, Nat.reduceAdd, Nat.reduceSub, Array.replicate_succ, Array.replicate_zero, List.push_toArray, List.append_toArray, List.nil_append, List.cons_append]
  gi_wp2_with (gi_at_call 142; refine (Sv.len64_in F (n - 1) h1 hro _).mono ?_; rintro e w' ⟨⟨v, rfl⟩, rfl⟩)
  go_ret
  exact ⟨⟨_, rfl⟩, rfl⟩

set_option maxHeartbeats 1000000 in
theorem Sv.sort_in (F : Fence) (n : Nat) (h : F.fn 111) (h0 : F.fn 120) (h1 : F.fn 121) (h2 : F.fn 142) (h3 : F.fn 132) (hro : F.round = none) (hn : 4 ≤ n) (p : Option Addr) (cap : Nat) (w : World) :
    CallsIn F n Tryd.prog 111 #[.slice p 1 cap] w fun e w' => (∃ v, e = .returned v) ∧ w' = w := by
  have hn1 : 1 ≤ n := by omega
  refine callsIn_of_wp Tryd.func111 rfl h ?_ hro
  simp only [Tryd.ntmps111, List.size_toArray, List.length_cons, List.length_nil, Nat.reduceAdd, Nat.reduceSub, Array.replicate_succ, Array.replicate_zero, List.push_toArray, List.append_toArray, List.nil_append, List.cons_append]
  gi_wp2_with (first
    | (gi_at_call 121; refine (Sv.len_in F (n - 1) h1 h2 hro (by omega) _).mono ?_; rintro e w' ⟨⟨v, rfl⟩, rfl⟩)
    | (gi_at_call 120; refine (Sv.pdq_in F (n - 1) h0 h3 hro (by omega) _ _ _ _).mono ?_; rintro e w' ⟨⟨v, rfl⟩, rfl⟩))
  go_end0
  exact ⟨⟨_, rfl⟩, rfl⟩

set_option maxHeartbeats 2000000 in
/-- slices.Sorted(slices.Values([z])). -/
theorem Sv.sorted_in (F : Fence) (n : Nat) (h : F.fn 95) (h110 : F.fn 110) (h119 : F.fn 119) (h112 : F.fn 112) (h111 : F.fn 111) (h120 : F.fn 120) (h121 : F.fn 121) (h142 : F.fn 142) (h132 : F.fn 132) (hro : F.round = none) (hn : 5 ≤ n) (Bs : Nat) (sv : Value) (z : Int) (w : World) (hBs : Bs < w.heap.size)
    (hc : w.cell? ⟨Bs, 0, none⟩ = some sv) (hI : Sv.Ints w.heap.size w sv [z]) :
    CallsIn F n Tryd.prog 95 #[.func (.func 112) #[] #[.pointer (some ⟨Bs, 0, none⟩)]] w fun e W' => ∃ v, e = .returned v ∧ W'.ownsRow w.heap.size 2 1 v 1 [.int .i64 z] ∧ Below w.heap.size w W' := by
  have hn1 : 1 ≤ n := by omega
  refine callsIn_of_wp Tryd.func95 rfl h ?_ hro
  simp only [Tryd.ntmps95, List.size_toArray, List.length_cons, List.length_nil, Nat.reduceAdd, Nat.reduceSub, Array.replicate_succ, Array.replicate_zero, List.push_toArray, List.append_toArray, List.nil_append, List.cons_append]
  gi_wp2_with (first
    | (gi_at_call 110; refine (Sv.collect_in F (n - 1) h110 h119 h112 hro (by omega) Bs sv [z] (by simp [maxLen]) (by simp) w hBs hc hI).mono ?_; rintro e w' ⟨v, rfl, hrow0, hnil, hb⟩; have hrow : w'.ownsRow w.heap.size 2 1 v (0 + 1) [.int .i64 z] := hrow0; clear hrow0 hnil; obtain ⟨g', cap', rfl⟩ := ownsRow_succ hrow)
    | (gi_at_call 111; refine (Sv.sort_in F (n - 1) h111 h120 h121 h142 h132 hro (by omega) _ _ _).mono ?_; rintro e w' ⟨⟨v, rfl⟩, rfl⟩))
  go_ret
  exact ⟨_, rfl, by simpa using hrow, hb⟩
end Go.Proofs.YtbppemcdphgknaaDoor
/- Chapter 13: a bag of one. -/
namespace Go.Proofs.YtbppemcdphgknaaDoor
open Go Go.Vm
set_option maxRecDepth 100000
set_option maxHeartbeats 40000000
set_option linter.unusedSimpArgs false
set_option linter.unusedVariables false
theorem more_one (v n : Int) : PTriple Tryd.prog gv 97 [.nils, i64V v, i64V n] (.lst 2 [[i64V v, i64V n]]) := by
  have hp : PureEs [[i64V v, i64V n]] := pure_R [(v, n)]
  refine PTriple.of_body (C := cx) Tryd.func97 rfl (by kernel_rfl) mixed fun E hE => ?_
  repeat' (conv => whnf); first
   | (refine bcase_of (fun hr => ?_) (fun hr => ?_) <;> (try simp only [decide_eq_true_eq, decide_eq_false_iff_not, beq_iff_eq, beq_eq_false_iff_ne, ne_eq, bne_iff_ne, bne_eq_false_iff_eq, Bool.not_eq_true, ge_iff_le, gt_iff_lt] at hr) <;> try (exfalso; first | omega | exact hr rfl | (simp at hr; done) | (simp at hr; omega)))
   | (apply And.intro; · first | exact Nat.le_of_ble_eq_true rfl | (show indep _ _ = true; kernel_rfl) | decide | exact ⟨by decide, by decide⟩ | exact ⟨Nat.le_of_ble_eq_true rfl, allOne_of rfl⟩ | exact allOne_of rfl | exact ⟨by omega, by omega⟩ | exact ⟨(by decide : 1 * 16 ≤ roomBound), (by decide : 1 ≤ roomBound)⟩ | exact hp)
   | (apply Exists.intro; apply And.intro; · first | exact rfl)
   | fail
  all_goals (conv => whnf)
  all_goals rfl
end Go.Proofs.YtbppemcdphgknaaDoor
/- bag.Of at one number. -/
namespace Go.Proofs.YtbppemcdphgknaaDoor
open Go Go.Proofs Go.RowKit Go.Shelf

attribute [local go_sem] Oper.semAt_some

theorem Sv.more_calls {w : World} {M : Vm.Mem} (hG : Vm.GOk gv M) (hM : Vm.MemOk M w) (v n : Int) :
    Calls Tryd.prog 97 #[.slice none 0 0, .int .i64 v, .int .i64 n] w fun e w' => ∃ r' M', e = .returned r' ∧ Vm.Grown M w M' w' ∧ Vm.VRel (fun _ => none) M' (.lst 2 [[.int .i64 v, .int .i64 n]]) r' :=
  (more_one v n).calls ⟨_, Tryd.func97, by kernel_rfl, by kernel_rfl⟩ hG hM (.cons .nils (.cons (.int _ _) (.cons (.int _ _) .nil)))

set_option maxHeartbeats 4000000 in
theorem Sv.bagOf_in (w : World) (M : Vm.Mem) (hG : Vm.GOk gv M) (hM : Vm.MemOk M w) (b o cap : Nat) (z : Int) (hc : M b o = some (.int .i64 z)) :
    Calls Tryd.prog 74 #[.slice (some ⟨b, o, none⟩) 1 cap] w fun e w' => ∃ r' M', e = .returned r' ∧ Vm.Grown M w M' w' ∧ Vm.VRel (fun _ => none) M' (.lst 2 [[.int .i64 z, .int .i64 1]]) r' := by
  have hcw := hM _ _ _ hc
  have hb : b < w.heap.size := by
    simp [World.cell?] at hcw
    by_cases h : b < w.heap.size
    · exact h
    · rw [Array.getElem?_eq_none (by omega)] at hcw; simp at hcw
  refine callsIn_wide (n := 7).1 ?_
  have hn1 : 1 ≤ 7 := by omega
  have hro : Fence.wide.round = none := rfl
  refine callsIn_of_wp Tryd.func74 rfl trivial ?_ hro
  simp only [Tryd.ntmps74, List.size_toArray, List.length_cons, List.length_nil, Nat.reduceAdd, Nat.reduceSub, Array.replicate_succ, Array.replicate_zero, List.push_toArray, List.append_toArray, List.nil_append, List.cons_append]
  have hB1 : Below w.heap.size w (w.alloc (.cells #[.slice (some ⟨b, o, none⟩) 1 cap] 125)) := (Below.refl _ w).alloc (Nat.le_refl _) _
  have hI1 : Sv.Ints (w.alloc (.cells #[.slice (some ⟨b, o, none⟩) 1 cap] 125)).heap.size (w.alloc (.cells #[.slice (some ⟨b, o, none⟩) 1 cap] 125)) (.slice (some ⟨b, o, none⟩) 1 cap) [z] := by
    refine .inr ⟨b, o, cap, rfl, by simp; omega, fun j hj => ?_⟩
    obtain rfl : j = 0 := by simpa using hj
    exact (hB1.cell (p := ⟨b, o, none⟩) hb).trans hcw
  gi_wp2_with (first
    | (refine ⟨trivial, ?_⟩; gi_at_call 96; refine (Sv.values_in Fence.wide 6 trivial rfl _ _ _ _).mono ?_; rintro e w1 ⟨rfl, rfl⟩)
    | (refine ⟨trivial, ?_⟩; gi_at_call 95; refine (Sv.sorted_in Fence.wide 6 trivial trivial trivial trivial trivial trivial trivial trivial trivial rfl (by omega) w.heap.size _ z _ (by simp) (Boxed.new w 125 _).cell hI1).mono ?_; rintro e w2 ⟨v, rfl, hrow0, hb2⟩; have hrow : w2.ownsRow (w.alloc (.cells #[.slice (some ⟨b, o, none⟩) 1 cap] 125)).heap.size 2 1 v (0 + 1) [.int .i64 z] := hrow0; clear hrow0; obtain ⟨g', cap', rfl⟩ := ownsRow_succ hrow))
  have hcell : w2.cell? ⟨g', 0, none⟩ = some (.int .i64 z) := by
    rcases hrow.2 with ⟨h0, _⟩ | ⟨g, cp, cur, he, _, hgb, h1, _, h3, h4⟩
    · cases h0
    · cases he
      cases cur with | mk l =>
      cases l with
      | nil => simp at h3; omega
      | cons y r =>
        simp at h4
        simp [World.cell?, hgb, h4]
  have hbel : Below w.heap.size w w2 := hB1.trans (hb2.mono (by simp))
  have hgr : Vm.Grown M w M w2 := ⟨hbel.size, hbel.block, hbel.os, hbel.tape, hbel.output, Vm.Mem.le_refl M, fun b o v h => .inl h, fun b' o' v h => by
    have h1 := hM _ _ _ h
    have hlt : b' < w.heap.size := by
      simp [World.cell?] at h1
      by_cases h : b' < w.heap.size
      · exact h
      · rw [Array.getElem?_eq_none (by omega)] at h1; simp at h1
    exact (hbel.cell (p := ⟨b', o', none⟩) hlt).trans h1⟩
  gi_loopw [3, 10] (fun a i wr => (a = .slice none 0 0 ∧ i = .int .i64 0 ∧ wr = w2) ∨ (i = .int .i64 1 ∧ ∃ M', Vm.Grown M w M' wr ∧ Vm.VRel (fun _ => none) M' (.lst 2 [[.int .i64 z, .int .i64 1]]) a)) (fun _ i _ => 1 - (intOf i).toNat)
  case atStart => exact .inl ⟨rfl, rfl, rfl⟩
  case round =>
    rcases hrel with ⟨rfl, rfl, rfl⟩ | ⟨rfl, M', hg', hv⟩
    · gi_wp2_with (refine ⟨trivial, ?_⟩; gi_at_call 97; refine (callsIn_wide.2 (Sv.more_calls hG hgr.mem z 1)).mono ?_; rintro e w3 ⟨r', M', rfl, hg3, hv3⟩)
      refine ⟨.inr ⟨rfl, M', ⟨Nat.le_trans hgr.size hg3.size, fun b h => (hg3.heap b (Nat.lt_of_lt_of_le h hgr.size)).trans (hgr.heap b h), hg3.os.trans hgr.os, hg3.tape.trans hgr.tape, hg3.output.trans hgr.output, hg3.le, fun b o v h => ?_, hg3.mem⟩, hv3⟩, by simp [intOf]⟩
      rcases hg3.new b o v h with h | h
      · exact .inl h
      · exact .inr (Nat.le_trans hgr.size h)
    · gi_wp2
      go_ret
      exact ⟨_, M', rfl, hg', hv⟩

open Go.Vm in
theorem bagOf_one (z : Int) : PTriple Tryd.prog gv 74 [.lst 1 [[i64V z]]] (bagV [(z, 1)]) := by
  refine .inl ⟨⟨_, Tryd.func74, by kernel_rfl, by kernel_rfl⟩, fun w M args' hG hM hv => ?_⟩
  obtain ⟨v', r, rfl, h1, h2⟩ := hv.uncons
  obtain rfl := h2.nil_inv
  cases h1 with
  | lst vals a1 a2 a3 a4 =>
    have hv0 := a2 0 0 [i64V z] (i64V z) rfl rfl
    have hm := a3 0 0 (by simp) (by omega)
    cases hx : vals 0 0 with
    | int k n =>
      rw [hx] at hv0 hm
      cases hv0
      exact Sv.bagOf_in w M hG hM _ _ _ z (by simpa using hm)
    | _ => rw [hx] at hv0; cases hv0
#print axioms bagOf_one
end Go.Proofs.YtbppemcdphgknaaDoor
/- Chapter 13: wakes. -/
namespace Go.Proofs.YtbppemcdphgknaaDoor
open Go Go.Vm
set_option maxRecDepth 100000
set_option maxHeartbeats 40000000
set_option linter.unusedSimpArgs false
set_option linter.unusedVariables false
def c1 : En := ⟨0, 0, 1, 5, 0, [(5, 1)], []⟩
def L1 : List En := [⟨3, 1, 1, 5, 0, [(5, 1)], []⟩]
def L2 : List En := [⟨3, 1, 1, 5, 0, [(5, 1)], []⟩, ⟨4, 3, 0, 0, 0, [], []⟩]
theorem pure_one (v : Int) : PureEs [[i64V v]] := fun e he x hx => by
  rw [List.mem_singleton.1 he] at hx
  rw [List.mem_singleton.1 hx]
  exact .int _ _
theorem pure_fact (z : Int) : PureEs [[V.int .u8 0, V.int .u8 0, V.int .u8 0, V.int .u8 0, i64V z, i64V 0]] := fun e he x hx => by
  rw [List.mem_singleton.1 he] at hx
  simp only [List.mem_cons, List.not_mem_nil, or_false] at hx
  rcases hx with rfl | rfl | rfl | rfl | rfl | rfl <;> exact .int _ _
theorem cellOf_one : PTriple Tryd.prog gv 40 [i64V 1, .lst 6 [[.int .u8 0, .int .u8 0, .int .u8 0, .int .u8 0, i64V 5, i64V 0]]] (.tup [.agg [i64V 1, i64V 5, i64V 0, .lst 2 [[i64V 5, i64V 1]], .nils], .bool true]) := by
  have cM := meas_ok 1
  have cB := bagOf_one 5
  have cS := Sum_ok [(5, 1)] (by decide) (by intro r hr; rw [List.mem_singleton.1 hr]; exact ⟨⟨by omega, by omega⟩, ⟨by omega, by omega⟩⟩)
  have pA := pure_one 5
  have pB := pure_fact 5
  have pR : PureEs [[i64V 5, i64V 1]] := pure_R [(5, 1)]
  rw [show (if goodB [(5, 1)] then fit (wsum [(5, 1)]) else (0, false)) = ((5 : Int), true) by kernel_rfl] at cS
  rw [show (decide ((1 : Int) ≤ 1) && decide ((1 : Int) ≤ 2)) = true by rfl] at cM
  refine PTriple.of_body (C := cx) Tryd.func40 rfl (by kernel_rfl) mixed fun E hE => ?_
  repeat' (conv => whnf); first
   | (refine bcase_of (fun hr => ?_) (fun hr => ?_) <;> (try simp only [decide_eq_true_eq, decide_eq_false_iff_not, beq_iff_eq, beq_eq_false_iff_ne, ne_eq, bne_iff_ne, bne_eq_false_iff_eq, Bool.not_eq_true, ge_iff_le, gt_iff_lt] at hr) <;> try (exfalso; first | omega | exact hr rfl | (simp at hr; done) | (simp at hr; omega) | (simp [hne] at hr; done) | (simp at hr; exact hxy (Prod.ext hr.1 hr.2)) | (simp at hr; exact h2 hr) | (simp_all; done)))
   | (apply And.intro; · first | exact Nat.le_of_ble_eq_true rfl | (show indep _ _ = true; kernel_rfl) | decide | exact ⟨by decide, by decide⟩ | exact ⟨Nat.le_of_ble_eq_true rfl, allOne_of rfl⟩ | exact allOne_of rfl | exact ⟨by omega, by omega⟩ | exact ⟨(by decide : 1 * 8 ≤ roomBound), (by decide : 1 ≤ roomBound)⟩ | exact ⟨by decide, (by intro h; cases h), by unfold roomBound; decide, by unfold roomBound; decide⟩ | exact pA | exact pB | exact pR)
   | (apply Exists.intro; apply And.intro; · first | exact rfl | exact cM | exact cB | exact cS)
   | fail
  all_goals (conv => whnf)
  all_goals refine VLoop.unroll hE mixed ?_
  repeat' (conv => whnf); first
   | (refine bcase_of (fun hr => ?_) (fun hr => ?_) <;> (try simp only [decide_eq_true_eq, decide_eq_false_iff_not, beq_iff_eq, beq_eq_false_iff_ne, ne_eq, bne_iff_ne, bne_eq_false_iff_eq, Bool.not_eq_true, ge_iff_le, gt_iff_lt] at hr) <;> try (exfalso; first | omega | exact hr rfl | (simp at hr; done) | (simp at hr; omega) | (simp [hne] at hr; done) | (simp at hr; exact hxy (Prod.ext hr.1 hr.2)) | (simp at hr; exact h2 hr) | (simp_all; done)))
   | (apply And.intro; · first | exact Nat.le_of_ble_eq_true rfl | (show indep _ _ = true; kernel_rfl) | decide | exact ⟨by decide, by decide⟩ | exact ⟨Nat.le_of_ble_eq_true rfl, allOne_of rfl⟩ | exact allOne_of rfl | exact ⟨by omega, by omega⟩ | exact ⟨(by decide : 1 * 8 ≤ roomBound), (by decide : 1 ≤ roomBound)⟩ | exact ⟨by decide, (by intro h; cases h), by unfold roomBound; decide, by unfold roomBound; decide⟩ | exact pA | exact pB | exact pR)
   | (apply Exists.intro; apply And.intro; · first | exact rfl | exact cM | exact cB | exact cS)
   | fail
  all_goals (conv => whnf)
  all_goals refine VLoop.unroll hE mixed ?_
  repeat' (conv => whnf); first
   | (refine bcase_of (fun hr => ?_) (fun hr => ?_) <;> (try simp only [decide_eq_true_eq, decide_eq_false_iff_not, beq_iff_eq, beq_eq_false_iff_ne, ne_eq, bne_iff_ne, bne_eq_false_iff_eq, Bool.not_eq_true, ge_iff_le, gt_iff_lt] at hr) <;> try (exfalso; first | omega | exact hr rfl | (simp at hr; done) | (simp at hr; omega) | (simp [hne] at hr; done) | (simp at hr; exact hxy (Prod.ext hr.1 hr.2)) | (simp at hr; exact h2 hr) | (simp_all; done)))
   | (apply And.intro; · first | exact Nat.le_of_ble_eq_true rfl | (show indep _ _ = true; kernel_rfl) | decide | exact ⟨by decide, by decide⟩ | exact ⟨Nat.le_of_ble_eq_true rfl, allOne_of rfl⟩ | exact allOne_of rfl | exact ⟨by omega, by omega⟩ | exact ⟨(by decide : 1 * 8 ≤ roomBound), (by decide : 1 ≤ roomBound)⟩ | exact ⟨by decide, (by intro h; cases h), by unfold roomBound; decide, by unfold roomBound; decide⟩ | exact pA | exact pB | exact pR)
   | (apply Exists.intro; apply And.intro; · first | exact rfl | exact cM | exact cB | exact cS)
   | fail
  all_goals (conv => whnf)
  all_goals refine VLoop.unroll hE mixed ?_
  repeat' (conv => whnf); first
   | (refine bcase_of (fun hr => ?_) (fun hr => ?_) <;> (try simp only [decide_eq_true_eq, decide_eq_false_iff_not, beq_iff_eq, beq_eq_false_iff_ne, ne_eq, bne_iff_ne, bne_eq_false_iff_eq, Bool.not_eq_true, ge_iff_le, gt_iff_lt] at hr) <;> try (exfalso; first | omega | exact hr rfl | (simp at hr; done) | (simp at hr; omega) | (simp [hne] at hr; done) | (simp at hr; exact hxy (Prod.ext hr.1 hr.2)) | (simp at hr; exact h2 hr) | (simp_all; done)))
   | (apply And.intro; · first | exact Nat.le_of_ble_eq_true rfl | (show indep _ _ = true; kernel_rfl) | decide | exact ⟨by decide, by decide⟩ | exact ⟨Nat.le_of_ble_eq_true rfl, allOne_of rfl⟩ | exact allOne_of rfl | exact ⟨by omega, by omega⟩ | exact ⟨(by decide : 1 * 8 ≤ roomBound), (by decide : 1 ≤ roomBound)⟩ | exact ⟨by decide, (by intro h; cases h), by unfold roomBound; decide, by unfold roomBound; decide⟩ | exact pA | exact pB | exact pR)
   | (apply Exists.intro; apply And.intro; · first | exact rfl | exact cM | exact cB | exact cS)
   | fail
  all_goals (conv => whnf)
  all_goals refine VLoop.unroll hE mixed ?_
  repeat' (conv => whnf); first
   | (refine bcase_of (fun hr => ?_) (fun hr => ?_) <;> (try simp only [decide_eq_true_eq, decide_eq_false_iff_not, beq_iff_eq, beq_eq_false_iff_ne, ne_eq, bne_iff_ne, bne_eq_false_iff_eq, Bool.not_eq_true, ge_iff_le, gt_iff_lt] at hr) <;> try (exfalso; first | omega | exact hr rfl | (simp at hr; done) | (simp at hr; omega) | (simp [hne] at hr; done) | (simp at hr; exact hxy (Prod.ext hr.1 hr.2)) | (simp at hr; exact h2 hr) | (simp_all; done)))
   | (apply And.intro; · first | exact Nat.le_of_ble_eq_true rfl | (show indep _ _ = true; kernel_rfl) | decide | exact ⟨by decide, by decide⟩ | exact ⟨Nat.le_of_ble_eq_true rfl, allOne_of rfl⟩ | exact allOne_of rfl | exact ⟨by omega, by omega⟩ | exact ⟨(by decide : 1 * 8 ≤ roomBound), (by decide : 1 ≤ roomBound)⟩ | exact ⟨by decide, (by intro h; cases h), by unfold roomBound; decide, by unfold roomBound; decide⟩ | exact pA | exact pB | exact pR)
   | (apply Exists.intro; apply And.intro; · first | exact rfl | exact cM | exact cB | exact cS)
   | fail
  all_goals (conv => whnf)
  all_goals rfl
theorem nil_cell {ρ : Rho} {M : Mem} {n a b : V} {p : V} {v : Value} (h : VRel ρ M (.agg [n, a, b, p, .nils]) v) : VRel ρ M (.agg [n, a, b, p, .lst 2 []]) v := by
  cases h with
  | agg h1 h2 =>
    have : VsRel ρ M [n, a, b, p, .nils] _ := ⟨h1, h2⟩
    have h3 := (Nilled.same (Nilled.same (Nilled.same (Nilled.same (Nilled.nils (sz := 2) .nil))))).rel this
    exact .agg h3.1 h3.2
theorem cellOf_ok : PTriple Tryd.prog gv 40 [i64V 1, .lst 6 [[.int .u8 0, .int .u8 0, .int .u8 0, .int .u8 0, i64V 5, i64V 0]]] (.tup [cellE c1, .bool true]) :=
  cellOf_one.weak (fun _ _ h => h) fun M v h => by
    cases h with
    | tup h1 h2 =>
      have h0 : VsRel (fun _ => none) M [.agg [i64V 1, i64V 5, i64V 0, .lst 2 [[i64V 5, i64V 1]], .nils], .bool true] _ := ⟨h1, h2⟩
      obtain ⟨v', r, rfl, h3, h4⟩ := h0.uncons
      have h5 : VsRel (fun _ => none) M [cellE c1, .bool true] (v' :: r) := .cons (nil_cell h3) h4
      exact .tup h5.1 h5.2
theorem c1_in : EnIn c1 := ⟨by decide, by decide, fun r hr => (by rw [List.mem_singleton.1 hr]; exact ⟨⟨by omega, by omega⟩, ⟨by omega, by omega⟩⟩), fun r hr => (by cases hr), ⟨by show (-9223372036854775808 : Int) ≤ 5; omega, by show (5 : Int) < _; omega⟩, ⟨by show (-9223372036854775808 : Int) ≤ 0; omega, by show (0 : Int) < _; omega⟩⟩
theorem zero_in : EnIn ⟨0, 0, 0, 0, 0, [], []⟩ := ⟨by decide, by decide, fun r hr => (by cases hr), fun r hr => (by cases hr), ⟨by show (-9223372036854775808 : Int) ≤ 0; omega, by show (0 : Int) < _; omega⟩, ⟨by show (-9223372036854775808 : Int) ≤ 0; omega, by show (0 : Int) < _; omega⟩⟩
theorem L1_ch : ChIn L1 := ⟨by decide, fun e he => by rw [List.mem_singleton.1 he]; exact ⟨c1_in.lp, c1_in.lq, c1_in.rp, c1_in.rq, c1_in.a64, c1_in.b64⟩⟩
theorem nil_ch : ChIn [] := ⟨by decide, fun e he => by cases he⟩
theorem nils_lst {ρ : Rho} {M : Mem} {sz : Nat} {v : Value} (h : VRel ρ M .nils v) : VRel ρ M (.lst sz []) v := by
  cases h with
  | nils => exact .lst0
theorem zero_chain {M : Mem} {a b c d e : V} {v : Value} (h : VRel (fun _ => none) M (.lst 7 [[a, b, c, d, e, .nils, .nils]]) v) : VRel (fun _ => none) M (.lst 7 [[a, b, c, d, e, .lst 2 [], .lst 2 []]]) v := by
  cases h with
  | lst vals h1 h2 h3 h4 =>
    refine .lst vals (fun e he => by rw [List.mem_singleton.1 he]; rfl) (fun i k e' v hi hk => ?_) h3 h4
    cases i with
    | succ i => simp at hi
    | zero =>
      simp at hi
      subst hi
      match k, hk with
      | 0, hk => exact h2 0 0 _ _ rfl hk
      | 1, hk => exact h2 0 1 _ _ rfl hk
      | 2, hk => exact h2 0 2 _ _ rfl hk
      | 3, hk => exact h2 0 3 _ _ rfl hk
      | 4, hk => exact h2 0 4 _ _ rfl hk
      | 5, hk => simp at hk; subst hk; exact nils_lst (h2 0 5 _ _ rfl rfl)
      | 6, hk => simp at hk; subst hk; exact nils_lst (h2 0 6 _ _ rfl rfl)
      | k + 7, hk => simp at hk
theorem wakes_ok : PTriple Tryd.prog gv 12 [] (.bool true) := by
  have cO := cellOf_ok
  have cP1 := (Put_ok 1 2 3 0 [] c1 true nil_ch (by decide) c1_in).weak (fun _ _ h => (Nilled.same (Nilled.same (Nilled.nils (sz := 7) (Nilled.same (Nilled.same (Nilled.same (Nilled.same .nil))))))).rel h) (fun _ _ h => h)
  rw [show putA 1 2 [] 3 c1 true 0 = some L1 by kernel_rfl] at cP1
  have cA1 := At_ok 1 L1 3 L1_ch
  rw [show atS 1 L1 3 = some ⟨3, 1, 1, 5, 0, [(5, 1)], []⟩ by kernel_rfl] at cA1
  have cA2 := At_ok 1 L1 2 L1_ch
  rw [show atS 1 L1 2 = none by kernel_rfl] at cA2
  have cP2 := (Put_ok 1 2 3 0 L1 ⟨0, 0, 0, 0, 0, [], []⟩ false L1_ch (by decide) zero_in).zarg (.same (.same (.same (.same (.zero (.same (.same .nil)))))))
  rw [show putA 1 2 L1 3 ⟨0, 0, 0, 0, 0, [], []⟩ false 0 = some [] by kernel_rfl] at cP2
  have cP3 := (Put_ok 1 2 4 0 L1 ⟨0, 0, 0, 0, 0, [], []⟩ false L1_ch (by decide) zero_in).zarg (.same (.same (.same (.same (.zero (.same (.same .nil)))))))
  rw [show putA 1 2 L1 4 ⟨0, 0, 0, 0, 0, [], []⟩ false 0 = some L2 by kernel_rfl] at cP3
  have cS := cellSame_ok 1 5 0 1 5 0 [(5, 1)] [] [(5, 1)] [] (by decide) (by decide) (by decide) (by decide)
  rw [show decide ((1 : Int) = 1 ∧ (5 : Int) = 5 ∧ (0 : Int) = 0 ∧ [((5 : Int), (1 : Int))] = [(5, 1)] ∧ ([] : RL) = []) = true by simp] at cS
  have L2_ch : ChIn L2 := ⟨by decide, fun e he => by
    rcases List.mem_cons.1 he with rfl | he
    · exact ⟨c1_in.lp, c1_in.lq, c1_in.rp, c1_in.rq, c1_in.a64, c1_in.b64⟩
    · rw [List.mem_singleton.1 he]; exact ⟨zero_in.lp, zero_in.lq, zero_in.rp, zero_in.rq, zero_in.a64, zero_in.b64⟩⟩
  have cR := Prune_ok 1 L2 5 L2_ch
  rw [show pruneS 1 L2 5 = [] by kernel_rfl] at cR
  have cR2 := Prune_ok 1 L2 3 L2_ch
  rw [show pruneS 1 L2 3 = L2 by kernel_rfl] at cR2
  have cU := Undo_ok 1 L2 4 L2_ch
  rw [show undoS 1 L2 4 = L1 by kernel_rfl] at cU
  have cG := goodL_ok 1 L2 (by decide) L2_ch.2
  rw [show goodL 1 L2 = true by kernel_rfl] at cG
  have cG2 := (goodL_ok 1 [⟨1, 3, 0, 0, 0, [], []⟩] (by decide) (fun e he => by rw [List.mem_singleton.1 he]; exact ⟨zero_in.lp, zero_in.lq, zero_in.rp, zero_in.rq, zero_in.a64, zero_in.b64⟩)).weak (args' := [i64V 1, .lst 7 [[i64V 1, i64V 3, i64V 0, i64V 0, i64V 0, .nils, .nils]]]) (fun M l h => by
    obtain ⟨v1, r1, rfl, h1, h2⟩ := h.uncons
    obtain ⟨v2, r2, rfl, h3, h4⟩ := h2.uncons
    exact .cons h1 (.cons (zero_chain h3) h4)) (fun _ _ h => h)
  rw [show goodL 1 [⟨1, 3, 0, 0, 0, [], []⟩] = false by kernel_rfl] at cG2
  have pZ : PureEs [[i64V 1, i64V 3, i64V 0, i64V 0, i64V 0, .nils, .nils]] := fun e he x hx => by
    rw [List.mem_singleton.1 he] at hx
    simp only [List.mem_cons, List.not_mem_nil, or_false] at hx
    rcases hx with rfl | rfl | rfl | rfl | rfl | rfl | rfl
    all_goals first | exact .int _ _ | exact .nils
  have pF := pure_fact 5
  have pL1 := pure_E L1
  have pL2 := pure_E L2
  have pR : PureEs [[i64V 5, i64V 1]] := pure_R [(5, 1)]
  refine PTriple.of_body (C := cx) Tryd.func12 rfl (by kernel_rfl) mixed fun E hE => ?_
  repeat' (conv => whnf); first
   | (refine bcase_of (fun hr => ?_) (fun hr => ?_) <;> (try simp only [decide_eq_true_eq, decide_eq_false_iff_not, beq_iff_eq, beq_eq_false_iff_ne, ne_eq, bne_iff_ne, bne_eq_false_iff_eq, Bool.not_eq_true, ge_iff_le, gt_iff_lt] at hr) <;> try (exfalso; first | omega | exact hr rfl | (simp at hr; done) | (simp at hr; omega) | (simp [hne] at hr; done) | (simp at hr; exact hxy (Prod.ext hr.1 hr.2)) | (simp at hr; exact h2 hr) | (simp_all; done)))
   | (apply And.intro; · first | exact Nat.le_of_ble_eq_true rfl | (show indep _ _ = true; kernel_rfl) | decide | exact ⟨by decide, by decide⟩ | exact ⟨Nat.le_of_ble_eq_true rfl, allOne_of rfl⟩ | exact allOne_of rfl | exact ⟨by omega, by omega⟩ | exact ⟨(by decide : 1 * 8 ≤ roomBound), (by decide : 1 ≤ roomBound)⟩ | exact ⟨by decide, (by intro h; cases h), by unfold roomBound; decide, by unfold roomBound; decide⟩ | exact pF | exact pZ | exact pL1 | exact pL2 | exact pR | exact pure_E [] | exact pure_R [] | exact one_E _ | exact ⟨(by decide : 1 * 24 ≤ roomBound), (by decide : 1 ≤ roomBound)⟩)
   | (apply Exists.intro; apply And.intro; · first | exact rfl | exact cO | exact cP1 | exact cA1 | exact cA2 | exact cP2 | exact cP3 | exact cS | exact cR | exact cR2 | exact cU | exact cG | exact cG2)
   | fail
  all_goals (conv => whnf)
  all_goals rfl
end Go.Proofs.YtbppemcdphgknaaDoor
/- Chapter 13: may a case be, alike. -/
namespace Go.Proofs.YtbppemcdphgknaaDoor
open Go Go.Vm
set_option maxRecDepth 100000
set_option maxHeartbeats 40000000
set_option linter.unusedSimpArgs false
set_option linter.unusedVariables false
abbrev caseV (m keep : Int) (l : List En) (ver fl : Int) (c : En) (i : Bool) : V := .agg [i64V m, i64V keep, chV l, i64V ver, i64V fl, i64V c.n, i64V c.a, i64V c.b, bagV c.p, bagV c.q, .bool i]
def mayCase (m keep : Int) (l : List En) (ver : Int) (c : En) (i : Bool) : Bool := lightL l && lightB c.p c.q && goodL m l && decide (2 ≤ keep) && decide (keep ≤ 8) && decide (1 ≤ ver) && lastLe l ver && mayC m i c.n c.a c.b c.p c.q
theorem light_len {l : List En} (h : lightL l = true) : l.length ≤ 20 ∧ ∀ e ∈ l, e.p.length ≤ 60 ∧ e.q.length ≤ 60 := by
  simp only [lightL, Bool.and_eq_true, decide_eq_true_eq, List.all_eq_true, lightB] at h
  exact h
theorem lightB_len {p q : RL} (h : lightB p q = true) : p.length ≤ 60 ∧ q.length ≤ 60 := by
  simpa [lightB] using h
/-- The numbers of an entry are 64 bits wide. -/
structure En64 (e : En) : Prop where
  rp : RIn e.p
  rq : RIn e.q
  a64 : in64 e.a
  b64 : in64 e.b
theorem ch_of_light {l : List En} (h : lightL l = true) (h6 : ∀ e ∈ l, En64 e) : ChIn l := by
  obtain ⟨h1, h2⟩ := light_len h
  exact ⟨by omega, fun e he => ⟨by have := (h2 e he).1; omega, by have := (h2 e he).2; omega, (h6 e he).rp, (h6 e he).rq, (h6 e he).a64, (h6 e he).b64⟩⟩
theorem in_of_light {c : En} (h : lightB c.p c.q = true) (h6 : En64 c) : EnIn c := by
  obtain ⟨h1, h2⟩ := lightB_len h
  exact ⟨by omega, by omega, h6.rp, h6.rq, h6.a64, h6.b64⟩
theorem mayCase_ok (m keep : Int) (l : List En) (ver fl : Int) (c : En) (i : Bool) (h6 : ∀ e ∈ l, En64 e) (hc6 : En64 c) : PTriple Tryd.prog gv 26 [caseV m keep l ver fl c i] (.bool (mayCase m keep l ver c i)) := by
  have pL := pure_E l
  have lL := lenE l
  have pcp := pure_R c.p
  have pcq := pure_R c.q
  have c1 := lightL_ok l
  have c2 := lightB_ok c.n c.a c.b c.p c.q
  unfold mayCase
  cases h1 : lightL l with
  | false =>
    rw [h1] at c1
    simp only [Bool.false_and]
    refine PTriple.of_body (C := cx) Tryd.func26 rfl (by kernel_rfl) mixed fun E hE => ?_
    repeat' (conv => whnf); first
     | (refine bcase_of (fun hr => ?_) (fun hr => ?_) <;> (try simp only [decide_eq_true_eq, decide_eq_false_iff_not, beq_iff_eq, beq_eq_false_iff_ne, ne_eq, bne_iff_ne, bne_eq_false_iff_eq, Bool.not_eq_true, ge_iff_le, gt_iff_lt] at hr) <;> try (exfalso; first | omega | exact hr rfl | (simp at hr; done) | (simp at hr; omega)))
     | (apply And.intro; · first | exact Nat.le_of_ble_eq_true rfl | (show indep _ _ = true; kernel_rfl) | decide | exact ⟨by decide, by decide⟩ | exact ⟨Nat.le_of_ble_eq_true rfl, allOne_of rfl⟩ | exact allOne_of rfl | exact ⟨by omega, by omega⟩ | exact ⟨by omega, by rw [lL]; omega⟩ | (rw [lL, hw0]; exact ⟨by omega, by omega⟩) | (rw [hw0]; exact ⟨by omega, by rw [lL]; omega⟩) | exact pL | exact pcp | exact pcq)
     | (apply Exists.intro; apply And.intro; · first | exact rfl | exact c1)
     | rw [lL]
     | rw [hw0]
     | fail
    all_goals (conv => whnf)
    all_goals first | rfl | (exfalso; omega) | (subst hr; rfl) | (simp_all; done)
  | true =>
  rw [h1] at c1
  have hch := ch_of_light h1 h6
  have hl20 := (light_len h1).1
  cases h2 : lightB c.p c.q with
  | false =>
    rw [h2] at c2
    simp only [Bool.false_and, Bool.and_false]
    refine PTriple.of_body (C := cx) Tryd.func26 rfl (by kernel_rfl) mixed fun E hE => ?_
    repeat' (conv => whnf); first
     | (refine bcase_of (fun hr => ?_) (fun hr => ?_) <;> (try simp only [decide_eq_true_eq, decide_eq_false_iff_not, beq_iff_eq, beq_eq_false_iff_ne, ne_eq, bne_iff_ne, bne_eq_false_iff_eq, Bool.not_eq_true, ge_iff_le, gt_iff_lt] at hr) <;> try (exfalso; first | omega | exact hr rfl | (simp at hr; done) | (simp at hr; omega)))
     | (apply And.intro; · first | exact Nat.le_of_ble_eq_true rfl | (show indep _ _ = true; kernel_rfl) | decide | exact ⟨by decide, by decide⟩ | exact ⟨Nat.le_of_ble_eq_true rfl, allOne_of rfl⟩ | exact allOne_of rfl | exact ⟨by omega, by omega⟩ | exact ⟨by omega, by rw [lL]; omega⟩ | (rw [lL, hw0]; exact ⟨by omega, by omega⟩) | (rw [hw0]; exact ⟨by omega, by rw [lL]; omega⟩) | exact pL | exact pcp | exact pcq)
     | (apply Exists.intro; apply And.intro; · first | exact rfl | exact c1 | exact c2)
     | rw [lL]
     | rw [hw0]
     | fail
    all_goals (conv => whnf)
    all_goals first | rfl | (exfalso; omega) | (subst hr; rfl) | (simp_all; done)
  | true =>
  rw [h2] at c2
  have hc := in_of_light h2 hc6
  have c3 := goodL13_ok m l (by omega) hch.2
  cases h3 : goodL m l with
  | false =>
    rw [h3] at c3
    simp only [Bool.false_and, Bool.and_false]
    refine PTriple.of_body (C := cx) Tryd.func26 rfl (by kernel_rfl) mixed fun E hE => ?_
    repeat' (conv => whnf); first
     | (refine bcase_of (fun hr => ?_) (fun hr => ?_) <;> (try simp only [decide_eq_true_eq, decide_eq_false_iff_not, beq_iff_eq, beq_eq_false_iff_ne, ne_eq, bne_iff_ne, bne_eq_false_iff_eq, Bool.not_eq_true, ge_iff_le, gt_iff_lt] at hr) <;> try (exfalso; first | omega | exact hr rfl | (simp at hr; done) | (simp at hr; omega)))
     | (apply And.intro; · first | exact Nat.le_of_ble_eq_true rfl | (show indep _ _ = true; kernel_rfl) | decide | exact ⟨by decide, by decide⟩ | exact ⟨Nat.le_of_ble_eq_true rfl, allOne_of rfl⟩ | exact allOne_of rfl | exact ⟨by omega, by omega⟩ | exact ⟨by omega, by rw [lL]; omega⟩ | (rw [lL, hw0]; exact ⟨by omega, by omega⟩) | (rw [hw0]; exact ⟨by omega, by rw [lL]; omega⟩) | exact pL | exact pcp | exact pcq)
     | (apply Exists.intro; apply And.intro; · first | exact rfl | exact c1 | exact c2 | exact c3)
     | rw [lL]
     | rw [hw0]
     | fail
    all_goals (conv => whnf)
    all_goals first | rfl | (exfalso; omega) | (subst hr; rfl) | (simp_all; done)
  | true =>
  rw [h3] at c3
  simp only [Bool.true_and]
  by_cases hk : (2 ≤ keep ∧ keep ≤ 8) ∧ 1 ≤ ver
  case neg =>
    have e : (decide (2 ≤ keep) && decide (keep ≤ 8) && decide (1 ≤ ver)) = false := by simp; omega
    rw [e]
    simp only [Bool.false_and]
    refine PTriple.of_body (C := cx) Tryd.func26 rfl (by kernel_rfl) mixed fun E hE => ?_
    repeat' (conv => whnf); first
     | (refine bcase_of (fun hr => ?_) (fun hr => ?_) <;> (try simp only [decide_eq_true_eq, decide_eq_false_iff_not, beq_iff_eq, beq_eq_false_iff_ne, ne_eq, bne_iff_ne, bne_eq_false_iff_eq, Bool.not_eq_true, ge_iff_le, gt_iff_lt] at hr) <;> try (exfalso; first | omega | exact hr rfl | (simp at hr; done) | (simp at hr; omega)))
     | (apply And.intro; · first | exact Nat.le_of_ble_eq_true rfl | (show indep _ _ = true; kernel_rfl) | decide | exact ⟨by decide, by decide⟩ | exact ⟨Nat.le_of_ble_eq_true rfl, allOne_of rfl⟩ | exact allOne_of rfl | exact ⟨by omega, by omega⟩ | exact ⟨by omega, by rw [lL]; omega⟩ | (rw [lL, hw0]; exact ⟨by omega, by omega⟩) | (rw [hw0]; exact ⟨by omega, by rw [lL]; omega⟩) | exact pL | exact pcp | exact pcq)
     | (apply Exists.intro; apply And.intro; · first | exact rfl | exact c1 | exact c2 | exact c3)
     | rw [lL]
     | rw [hw0]
     | fail
    all_goals (conv => whnf)
    all_goals first | rfl | (exfalso; omega) | (subst hr; rfl) | (simp_all; done)
  case pos =>
  have e : (decide (2 ≤ keep) && decide (keep ≤ 8) && decide (1 ≤ ver)) = true := by simp; omega
  rw [e]
  simp only [Bool.true_and]
  have cG9 := cellGood9_ok m c.n c.a c.b c.p c.q hc.lp hc.lq hc.rp hc.rq hc.a64 hc.b64
  have cZ := zero9_ok c.n c.a c.b c.p c.q
  have hYt : i = true → PTriple Tryd.prog gv 29 [i64V m, cellE c] (.bool (mayC m i c.n c.a c.b c.p c.q)) := fun h => by unfold mayC; rw [h]; exact cG9
  have hYf : i = false → PTriple Tryd.prog gv 47 [cellE c] (.bool (mayC m i c.n c.a c.b c.p c.q)) := fun h => by unfold mayC; rw [h]; exact cZ
  clear cG9 cZ
  generalize mayC m i c.n c.a c.b c.p c.q = Y at hYt hYf ⊢
  have hw0 : IntKind.i64.wrap ((l.length : Int) - 1) = ((l.length : Nat) : Int) - 1 := wrap64 (by omega) (by omega)
  unfold lastLe
  cases hx : l[l.length - 1]? with
  | none =>
    have hn : l.length = 0 := by
      rcases Nat.eq_zero_or_pos l.length with h0 | h0
      · exact h0
      · rw [List.getElem?_eq_getElem (by omega)] at hx; cases hx
    have hnil : l = [] := by simpa using hn
    simp only [Bool.true_and]
    subst hnil
    cases i
    all_goals refine PTriple.of_body (C := cx) Tryd.func26 rfl (by kernel_rfl) mixed fun E hE => ?_
    repeat' (conv => whnf); first
     | (refine bcase_of (fun hr => ?_) (fun hr => ?_) <;> (try simp only [decide_eq_true_eq, decide_eq_false_iff_not, beq_iff_eq, beq_eq_false_iff_ne, ne_eq, bne_iff_ne, bne_eq_false_iff_eq, Bool.not_eq_true, ge_iff_le, gt_iff_lt] at hr) <;> try (exfalso; first | omega | exact hr rfl | (simp at hr; done) | (simp at hr; omega)))
     | (apply And.intro; · first | exact Nat.le_of_ble_eq_true rfl | (show indep _ _ = true; kernel_rfl) | decide | exact ⟨by decide, by decide⟩ | exact ⟨Nat.le_of_ble_eq_true rfl, allOne_of rfl⟩ | exact allOne_of rfl | exact ⟨by omega, by omega⟩ | exact ⟨by omega, by rw [lL]; omega⟩ | (rw [lL, hw0]; exact ⟨by omega, by omega⟩) | (rw [hw0]; exact ⟨by omega, by rw [lL]; omega⟩) | exact pL | exact pcp | exact pcq)
     | (apply Exists.intro; apply And.intro; · first | exact rfl | exact c1 | exact c2 | exact c3 | exact hYt rfl | exact hYf rfl)
     | rw [lL]
     | rw [hw0]
     | fail
    all_goals (conv => whnf)
    all_goals first | rfl | (exfalso; omega) | (subst hr; rfl) | (simp_all; done)
  | some e =>
    have hlt := (List.getElem?_eq_some_iff.1 hx).1
    have gi := getEc hx
    rw [show ((l.length - 1 : Nat) : Int) = (l.length : Int) - 1 by omega] at gi
    simp only
    by_cases hle : e.v ≤ ver
    case neg =>
      rw [decide_eq_false hle]
      simp only [Bool.false_and]
      refine PTriple.of_body (C := cx) Tryd.func26 rfl (by kernel_rfl) mixed fun E hE => ?_
      repeat' (conv => whnf); first
       | (refine bcase_of (fun hr => ?_) (fun hr => ?_) <;> (try simp only [decide_eq_true_eq, decide_eq_false_iff_not, beq_iff_eq, beq_eq_false_iff_ne, ne_eq, bne_iff_ne, bne_eq_false_iff_eq, Bool.not_eq_true, ge_iff_le, gt_iff_lt] at hr) <;> try (exfalso; first | omega | exact hr rfl | (simp at hr; done) | (simp at hr; omega)))
       | (apply And.intro; · first | exact Nat.le_of_ble_eq_true rfl | (show indep _ _ = true; kernel_rfl) | decide | exact ⟨by decide, by decide⟩ | exact ⟨Nat.le_of_ble_eq_true rfl, allOne_of rfl⟩ | exact allOne_of rfl | exact ⟨by omega, by omega⟩ | exact ⟨by omega, by rw [lL]; omega⟩ | (rw [lL, hw0]; exact ⟨by omega, by omega⟩) | (rw [hw0]; exact ⟨by omega, by rw [lL]; omega⟩) | exact pL | exact pcp | exact pcq)
       | (apply Exists.intro; apply And.intro; · first | exact rfl | exact c1 | exact c2 | exact c3 | exact hYt rfl | exact hYf rfl | exact gi)
       | rw [lL]
       | rw [hw0]
       | fail
      all_goals (conv => whnf)
      all_goals first | rfl | (exfalso; omega) | (subst hr; rfl) | (simp_all; done)
    case pos =>
      rw [decide_eq_true hle]
      simp only [Bool.true_and]
      cases i
      all_goals refine PTriple.of_body (C := cx) Tryd.func26 rfl (by kernel_rfl) mixed fun E hE => ?_
      repeat' (conv => whnf); first
       | (refine bcase_of (fun hr => ?_) (fun hr => ?_) <;> (try simp only [decide_eq_true_eq, decide_eq_false_iff_not, beq_iff_eq, beq_eq_false_iff_ne, ne_eq, bne_iff_ne, bne_eq_false_iff_eq, Bool.not_eq_true, ge_iff_le, gt_iff_lt] at hr) <;> try (exfalso; first | omega | exact hr rfl | (simp at hr; done) | (simp at hr; omega)))
       | (apply And.intro; · first | exact Nat.le_of_ble_eq_true rfl | (show indep _ _ = true; kernel_rfl) | decide | exact ⟨by decide, by decide⟩ | exact ⟨Nat.le_of_ble_eq_true rfl, allOne_of rfl⟩ | exact allOne_of rfl | exact ⟨by omega, by omega⟩ | exact ⟨by omega, by rw [lL]; omega⟩ | (rw [lL, hw0]; exact ⟨by omega, by omega⟩) | (rw [hw0]; exact ⟨by omega, by rw [lL]; omega⟩) | exact pL | exact pcp | exact pcq)
       | (apply Exists.intro; apply And.intro; · first | exact rfl | exact c1 | exact c2 | exact c3 | exact hYt rfl | exact hYf rfl | exact gi)
       | rw [lL]
       | rw [hw0]
       | fail
      all_goals (conv => whnf)
      all_goals first | rfl | (exfalso; omega) | (subst hr; rfl) | (simp_all; done)
/-- Is there the same? (Not: since when.) -/
def alikeO : Option En → Option En → Bool
  | none, none => true
  | some x, some y => decide (x.n = y.n ∧ x.a = y.a ∧ x.b = y.b ∧ x.p = y.p ∧ x.q = y.q)
  | _, _ => false
def alikeS (m : Int) (k l : List En) (ver : Int) : Bool := alikeO (atS m k ver) (atS m l ver)
theorem at_in {m : Int} {l : List En} {ver : Int} {e : En} (h : ChIn l) (he : atS m l ver = some e) : EnIn e := by
  unfold atS at he
  repeat' split at he
  all_goals first | (cases he; done) | (simp only [Option.some.injEq] at he; subst he; rename_i hx _ _; exact h.2 _ (List.mem_of_getElem? hx))
theorem alike_ok (m : Int) (k l : List En) (ver : Int) (hk : ChIn k) (hl : ChIn l) : PTriple Tryd.prog gv 28 [i64V m, chV k, chV l, i64V ver] (.bool (alikeS m k l ver)) := by
  have pK := pure_E k
  have pL := pure_E l
  have c1 := At_ok m k ver hk
  have c2 := At_ok m l ver hl
  unfold alikeS
  cases h1 : atS m k ver with
  | none =>
    rw [h1] at c1
    cases h2 : atS m l ver with
    | none =>
      rw [h2] at c2
      have c3 := cellSame_ok 0 0 0 0 0 0 [] [] [] [] (by decide) (by decide) (by decide) (by decide)
      refine PTriple.of_body (C := cx) Tryd.func28 rfl (by kernel_rfl) mixed fun E hE => ?_
      repeat' (conv => whnf); first
       | (refine bcase_of (fun hr => ?_) (fun hr => ?_) <;> (try simp only [decide_eq_true_eq, decide_eq_false_iff_not, beq_iff_eq, beq_eq_false_iff_ne, ne_eq, bne_iff_ne, bne_eq_false_iff_eq, Bool.not_eq_true, ge_iff_le, gt_iff_lt] at hr) <;> try (exfalso; first | omega | exact hr rfl | (simp at hr; done) | (simp at hr; omega)))
       | (apply And.intro; · first | exact Nat.le_of_ble_eq_true rfl | (show indep _ _ = true; kernel_rfl) | decide | exact ⟨by decide, by decide⟩ | exact ⟨Nat.le_of_ble_eq_true rfl, allOne_of rfl⟩ | exact allOne_of rfl | exact pK | exact pL | exact pure_R [])
       | (apply Exists.intro; apply And.intro; · first | exact rfl | exact c1 | exact c2 | exact c3)
       | fail
      all_goals (conv => whnf)
      all_goals first | rfl | (subst hr; rfl)
    | some y =>
      rw [h2] at c2
      have hy := at_in hl h2
      have py := pure_R y.p
      have pz := pure_R y.q
      refine PTriple.of_body (C := cx) Tryd.func28 rfl (by kernel_rfl) mixed fun E hE => ?_
      repeat' (conv => whnf); first
       | (refine bcase_of (fun hr => ?_) (fun hr => ?_) <;> (try simp only [decide_eq_true_eq, decide_eq_false_iff_not, beq_iff_eq, beq_eq_false_iff_ne, ne_eq, bne_iff_ne, bne_eq_false_iff_eq, Bool.not_eq_true, ge_iff_le, gt_iff_lt] at hr) <;> try (exfalso; first | omega | exact hr rfl | (simp at hr; done) | (simp at hr; omega)))
       | (apply And.intro; · first | exact Nat.le_of_ble_eq_true rfl | (show indep _ _ = true; kernel_rfl) | decide | exact ⟨by decide, by decide⟩ | exact ⟨Nat.le_of_ble_eq_true rfl, allOne_of rfl⟩ | exact allOne_of rfl | exact pK | exact pL | exact pure_R [] | exact py | exact pz)
       | (apply Exists.intro; apply And.intro; · first | exact rfl | exact c1 | exact c2)
       | fail
      all_goals (conv => whnf)
      all_goals first | rfl | (subst hr; rfl)
  | some x =>
    rw [h1] at c1
    have hx := at_in hk h1
    have px := pure_R x.p
    have pw := pure_R x.q
    cases h2 : atS m l ver with
    | none =>
      rw [h2] at c2
      refine PTriple.of_body (C := cx) Tryd.func28 rfl (by kernel_rfl) mixed fun E hE => ?_
      repeat' (conv => whnf); first
       | (refine bcase_of (fun hr => ?_) (fun hr => ?_) <;> (try simp only [decide_eq_true_eq, decide_eq_false_iff_not, beq_iff_eq, beq_eq_false_iff_ne, ne_eq, bne_iff_ne, bne_eq_false_iff_eq, Bool.not_eq_true, ge_iff_le, gt_iff_lt] at hr) <;> try (exfalso; first | omega | exact hr rfl | (simp at hr; done) | (simp at hr; omega)))
       | (apply And.intro; · first | exact Nat.le_of_ble_eq_true rfl | (show indep _ _ = true; kernel_rfl) | decide | exact ⟨by decide, by decide⟩ | exact ⟨Nat.le_of_ble_eq_true rfl, allOne_of rfl⟩ | exact allOne_of rfl | exact pK | exact pL | exact pure_R [] | exact px | exact pw)
       | (apply Exists.intro; apply And.intro; · first | exact rfl | exact c1 | exact c2)
       | fail
      all_goals (conv => whnf)
      all_goals first | rfl | (subst hr; rfl)
    | some y =>
      rw [h2] at c2
      have hy := at_in hl h2
      have py := pure_R y.p
      have pz := pure_R y.q
      have c3 := cellSame_ok x.n x.a x.b y.n y.a y.b x.p x.q y.p y.q hx.lp hx.lq hy.lp hy.lq
      show PTriple Tryd.prog gv 28 _ (.bool (decide (x.n = y.n ∧ x.a = y.a ∧ x.b = y.b ∧ x.p = y.p ∧ x.q = y.q)))
      generalize decide (x.n = y.n ∧ x.a = y.a ∧ x.b = y.b ∧ x.p = y.p ∧ x.q = y.q) = Q at c3
      refine PTriple.of_body (C := cx) Tryd.func28 rfl (by kernel_rfl) mixed fun E hE => ?_
      repeat' (conv => whnf); first
       | (refine bcase_of (fun hr => ?_) (fun hr => ?_) <;> (try simp only [decide_eq_true_eq, decide_eq_false_iff_not, beq_iff_eq, beq_eq_false_iff_ne, ne_eq, bne_iff_ne, bne_eq_false_iff_eq, Bool.not_eq_true, ge_iff_le, gt_iff_lt] at hr) <;> try (exfalso; first | omega | exact hr rfl | (simp at hr; done) | (simp at hr; omega)))
       | (apply And.intro; · first | exact Nat.le_of_ble_eq_true rfl | (show indep _ _ = true; kernel_rfl) | decide | exact ⟨by decide, by decide⟩ | exact ⟨Nat.le_of_ble_eq_true rfl, allOne_of rfl⟩ | exact allOne_of rfl | exact pK | exact pL | exact px | exact pw | exact py | exact pz)
       | (apply Exists.intro; apply And.intro; · first | exact rfl | exact c1 | exact c2 | exact c3)
       | fail
      all_goals (conv => whnf)
      all_goals first | rfl | (subst hr; rfl)
end Go.Proofs.YtbppemcdphgknaaDoor
/- Chapter 13, the plain law: what is there, put, undone, pruned, of chains that may be. -/
namespace Go.Proofs.YtbppemcdphgknaaDoor
open Go Go.Vm
set_option linter.unusedSimpArgs false
set_option linter.unusedVariables false
def lo (ver : Int) (l : List En) : List En := l.filter fun e => decide (e.v ≤ ver)
def hi (ver : Int) (l : List En) : List En := l.filter fun e => decide (ver < e.v)
def cur (l : List En) : Option En := match l.getLast? with
  | none => none
  | some e => if is e.o then some e else none
theorem lo_append (v : Int) (a b : List En) : lo v (a ++ b) = lo v a ++ lo v b := List.filter_append ..
theorem hi_append (v : Int) (a b : List En) : hi v (a ++ b) = hi v a ++ hi v b := List.filter_append ..
theorem lo_all {v : Int} {l : List En} (h : ∀ e ∈ l, e.v ≤ v) : lo v l = l := List.filter_eq_self.2 fun e he => by simpa using h e he
theorem hi_all {v : Int} {l : List En} (h : ∀ e ∈ l, v < e.v) : hi v l = l := List.filter_eq_self.2 fun e he => by simpa using h e he
theorem lo_none {v : Int} {l : List En} (h : ∀ e ∈ l, v < e.v) : lo v l = [] := List.filter_eq_nil_iff.2 fun e he => by simpa using h e he
theorem hi_none {v : Int} {l : List En} (h : ∀ e ∈ l, e.v ≤ v) : hi v l = [] := List.filter_eq_nil_iff.2 fun e he => by simpa using h e he
theorem mem_lo {v : Int} {l : List En} {e : En} : e ∈ lo v l ↔ e ∈ l ∧ e.v ≤ v := by simp [lo]
theorem mem_hi {v : Int} {l : List En} {e : En} : e ∈ hi v l ↔ e ∈ l ∧ v < e.v := by simp [hi]
theorem cut_lo {ver : Int} : ∀ {l : List En}, Rise l → l.take (cutN ver l) = lo ver l ∧ l.drop (cutN ver l) = hi ver l
  | [], _ => ⟨rfl, rfl⟩
  | e :: r, h => by
    have h' := List.pairwise_cons.1 h
    obtain ⟨i1, i2⟩ := cut_lo (ver := ver) h'.2
    simp only [cutN]
    split
    · rename_i hv
      refine ⟨?_, ?_⟩
      · rw [List.take_succ_cons, i1]
        simp [lo, hv]
      · rw [List.drop_succ_cons, i2]
        have : ¬ ver < e.v := by omega
        simp [hi, this]
    · rename_i hv
      have ha : ∀ x ∈ e :: r, ver < x.v := fun x hx => by
        rcases List.mem_cons.1 hx with rfl | hx
        · omega
        · have := h'.1 x hx; omega
      exact ⟨by rw [lo_none ha]; rfl, by rw [hi_all ha]; rfl⟩
theorem lo_hi {ver : Int} {l : List En} (h : Rise l) : lo ver l ++ hi ver l = l := by
  rw [← (cut_lo h).1, ← (cut_lo h).2, List.take_append_drop]
theorem cur_nil : cur [] = none := rfl
theorem cur_snoc (a : List En) (e : En) : cur (a ++ [e]) = if is e.o then some e else none := by simp [cur]
theorem snoc_of {l : List En} (h : l ≠ []) : ∃ a e, l = a ++ [e] := ⟨l.dropLast, l.getLast h, (List.dropLast_concat_getLast h).symm⟩
theorem cur_append (a : List En) {b : List En} (h : b ≠ []) : cur (a ++ b) = cur b := by
  obtain ⟨x, e, rfl⟩ := snoc_of h
  rw [← List.append_assoc, cur_snoc, cur_snoc]
theorem cur_some {l : List En} {e : En} (h : cur l = some e) : ∃ a, l = a ++ [e] ∧ is e.o = true := by
  by_cases hl : l = []
  · subst hl; cases h
  · obtain ⟨a, x, rfl⟩ := snoc_of hl
    rw [cur_snoc] at h
    split at h
    · rename_i hi
      obtain rfl := Option.some.inj h
      exact ⟨a, rfl, hi⟩
    · cases h
theorem cur_toList (a : List En) (b : List En) : cur ((cur a).toList ++ b) = cur (a ++ b) := by
  by_cases hb : b = []
  · subst hb
    rw [List.append_nil, List.append_nil]
    cases h : cur a with
    | none => rfl
    | some e =>
      obtain ⟨x, rfl, he⟩ := cur_some h
      show cur ([] ++ [e]) = some e
      rw [cur_snoc, he]; rfl
  · rw [cur_append _ hb, cur_append _ hb]
theorem last_get (l : List En) : l[l.length - 1]? = l.getLast? := by rw [List.getLast?_eq_getElem?]

theorem good_m {m : Int} {l : List En} (h : goodL m l = true) : 1 ≤ m ∧ m ≤ 2 := by
  simp only [goodL, Bool.and_eq_true, decide_eq_true_eq] at h
  exact h.1
theorem good_gch {m : Int} {l : List En} (h : goodL m l = true) : gch m true 0 false l = true := by
  simp only [goodL, Bool.and_eq_true, decide_eq_true_eq] at h
  exact h.2
theorem good_of {m : Int} {l : List En} (h : 1 ≤ m ∧ m ≤ 2) (h' : gch m true 0 false l = true) : goodL m l = true := by
  simp only [goodL, Bool.and_eq_true, decide_eq_true_eq]
  exact ⟨h, h'⟩
def stepE (m : Int) (f : Bool) (v : Int) (p : Bool) (x : En) : Bool := decide (v < x.v) && known x.o && mayE m x && (if f then decide (x.o ≠ 3) else (was x.o == p))
theorem gch_cons (m : Int) (f : Bool) (v : Int) (p : Bool) (e : En) (r : List En) : gch m f v p (e :: r) = (stepE m f v p e && gch m false e.v (is e.o) r) := rfl
theorem gch_append {m : Int} : ∀ (a : List En) (f : Bool) (v : Int) (p : Bool) (b : List En), gch m f v p (a ++ b) = (gch m f v p a && match a.getLast? with
    | none => gch m f v p b
    | some e => gch m false e.v (is e.o) b)
  | [], f, v, p, b => by simp [gch]
  | e :: r, f, v, p, b => by
    rw [List.cons_append, gch_cons, gch_cons, gch_append r, Bool.and_assoc]
    congr 1
    cases r with
    | nil => simp [gch]
    | cons x r =>
      rw [List.getLast?_cons_cons]
      cases hq : (x :: r).getLast? with
      | none => simp at hq
      | some y => rfl
theorem good_prefix {m : Int} {a b : List En} (h : goodL m (a ++ b) = true) : goodL m a = true := by
  have h2 := good_gch h
  rw [gch_append, Bool.and_eq_true] at h2
  exact good_of (good_m h) h2.1
theorem good_mid {m : Int} {a b : List En} {e : En} (h : goodL m (a ++ [e] ++ b) = true) : gch m false e.v (is e.o) b = true := by
  have h2 := good_gch h
  rw [gch_append, Bool.and_eq_true] at h2
  simpa using h2.2
theorem good_suffix {m : Int} {a r : List En} {x : En} (h : goodL m (a ++ x :: r) = true) (hx : x.o ≠ 3) : goodL m (x :: r) = true := by
  by_cases ha : a = []
  · subst ha; exact h
  · obtain ⟨a', e, rfl⟩ := snoc_of ha
    have h1 := (good_rise h).2 x (by simp)
    have h2 := good_mid h
    refine good_of (good_m h) ?_
    rw [gch_cons, Bool.and_eq_true] at h2 ⊢
    refine ⟨?_, h2.2⟩
    have h3 := h2.1
    simp only [stepE, Bool.and_eq_true, decide_eq_true_eq] at h3 ⊢
    exact ⟨⟨⟨by omega, h3.1.1.2⟩, h3.1.2⟩, by simp [hx]⟩
theorem good_was {m : Int} {a r : List En} {e x : En} (h : goodL m (a ++ [e] ++ x :: r) = true) : was x.o = is e.o := by
  have h2 := good_mid h
  rw [gch_cons, Bool.and_eq_true] at h2
  have h3 := h2.1
  simp only [stepE, Bool.and_eq_true, decide_eq_true_eq] at h3
  simpa using h3.2
theorem good_first {m : Int} {r : List En} {x : En} (h : goodL m (x :: r) = true) : x.o ≠ 3 := by
  have h2 := good_gch h
  rw [gch_cons, Bool.and_eq_true] at h2
  have h3 := h2.1
  simp only [stepE, Bool.and_eq_true, decide_eq_true_eq] at h3
  simpa using h3.2
theorem gch_known {m : Int} : ∀ {l : List En} {f : Bool} {v : Int} {p : Bool}, gch m f v p l = true → ∀ e ∈ l, known e.o = true
  | [], _, _, _, _, e, he => by cases he
  | x :: r, f, v, p, h, e, he => by
    rw [gch_cons, Bool.and_eq_true] at h
    rcases List.mem_cons.1 he with rfl | he
    · have h3 := h.1
      simp only [stepE, Bool.and_eq_true, decide_eq_true_eq] at h3
      exact h3.1.1.2
    · exact gch_known h.2 e he
theorem known_cases {o : Int} (h : known o = true) : o = 1 ∨ o = 2 ∨ o = 3 := by simpa [known] using h
theorem good_known {m : Int} {l : List En} (h : goodL m l = true) {e : En} (he : e ∈ l) : e.o = 1 ∨ e.o = 2 ∨ e.o = 3 := known_cases (gch_known (good_gch h) e he)
theorem good_nil {m : Int} (h : 1 ≤ m ∧ m ≤ 2) : goodL m [] = true := good_of h rfl

/-- What is there. -/
theorem at_eq {m : Int} {l : List En} (h : goodL m l = true) (ver : Int) : atS m l ver = cur (lo ver l) := by
  have hr := (good_rise h).1
  rw [← (cut_lo hr).1]
  unfold atS
  rw [h]
  have hle := cut_le ver l
  cases hk : cutN ver l with
  | zero => rfl
  | succ k =>
    rw [hk] at hle
    have hg : l[k]? = some l[k] := List.getElem?_eq_getElem (by omega)
    have ht : l.take (k + 1) = l.take k ++ [l[k]] := by rw [List.take_add_one, hg]; rfl
    simp only [hg]
    rw [ht, cur_snoc]
    cases is l[k].o <;> rfl
/-- What is left of a chain that is pruned. -/
theorem prune_eq {m : Int} {l : List En} (h : goodL m l = true) (floor : Int) : pruneS m l floor = (cur (lo floor l)).toList ++ hi floor l := by
  have hr := (good_rise h).1
  rw [← (cut_lo hr).1, ← (cut_lo hr).2]
  unfold pruneS
  rw [h]
  have hle := cut_le floor l
  cases hk : cutN floor l with
  | zero => rfl
  | succ k =>
    rw [hk] at hle
    have hg : l[k]? = some l[k] := List.getElem?_eq_getElem (by omega)
    have ht : l.take (k + 1) = l.take k ++ [l[k]] := by rw [List.take_add_one, hg]; rfl
    simp only [hg]
    rw [ht, cur_snoc]
    have hd : l.drop k = l[k] :: l.drop (k + 1) := List.drop_eq_getElem_cons (by omega)
    rcases good_known h (List.getElem_mem (by omega : k < l.length)) with ho | ho | ho
    · rw [if_neg (by omega), hd]; simp [ho, is]
    · rw [if_neg (by omega), hd]; simp [ho, is]
    · rw [if_pos ho]; simp [ho, is]
theorem good_prune {m : Int} {l : List En} (h : goodL m l = true) (floor : Int) : goodL m (pruneS m l floor) = true := by
  rw [prune_eq h]
  have hr := (good_rise h).1
  have hs := lo_hi (ver := floor) hr
  cases hc : cur (lo floor l) with
  | some e =>
    obtain ⟨a, ha, he⟩ := cur_some hc
    rw [ha, List.append_assoc] at hs
    rw [← hs] at h
    refine good_suffix h fun h3 => ?_
    rw [h3] at he; cases he
  | none =>
    show goodL m (hi floor l) = true
    by_cases hl : lo floor l = []
    · rw [hl, List.nil_append] at hs; rw [hs]; exact h
    · obtain ⟨a, e, ha⟩ := snoc_of hl
      rw [ha] at hs hc
      cases hh : hi floor l with
      | nil => exact good_nil (good_m h)
      | cons x r =>
        rw [hh] at hs
        rw [← hs] at h
        have hw := good_was h
        rw [cur_snoc] at hc
        have hn : is e.o = false := by
          cases hi : is e.o with
          | false => rfl
          | true => rw [hi] at hc; cases hc
        rw [hn] at hw
        refine good_suffix h fun h3 => ?_
        rw [h3] at hw; cases hw
theorem lo_lo {a b : Int} (h : a ≤ b) (l : List En) : lo b (lo a l) = lo a l := lo_all fun e he => by have := (mem_lo.1 he).2; omega
theorem mem_cur {l : List En} {e : En} (h : e ∈ (cur l).toList) : e ∈ l ∧ is e.o = true := by
  cases hc : cur l with
  | none => rw [hc] at h; cases h
  | some x =>
    rw [hc] at h
    obtain rfl : e = x := by simpa using h
    obtain ⟨a, rfl, he⟩ := cur_some hc
    exact ⟨by simp, he⟩
/-- Pruned, a chain is the same at the floor and above. -/
theorem at_prune {m : Int} {l : List En} (h : goodL m l = true) {floor at_ : Int} (hf : floor ≤ at_) : atS m (pruneS m l floor) at_ = atS m l at_ := by
  rw [at_eq (good_prune h floor), at_eq h, prune_eq h, lo_append]
  have h1 : lo at_ (cur (lo floor l)).toList = (cur (lo floor l)).toList := lo_all fun e he => by
    have := (mem_lo.1 (mem_cur he).1).2; omega
  rw [h1, cur_toList]
  congr 1
  have hs := lo_hi (ver := floor) (good_rise h).1
  conv => rhs; rw [← hs, lo_append]
  rw [lo_lo hf]
theorem prune_len {m : Int} {l : List En} (h : goodL m l = true) (floor : Int) : (pruneS m l floor).length ≤ l.length := by
  rw [prune_eq h]
  have hs := lo_hi (ver := floor) (good_rise h).1
  have : (cur (lo floor l)).toList.length ≤ (lo floor l).length := by
    cases hc : cur (lo floor l) with
    | none => simp
    | some e => obtain ⟨a, ha, _⟩ := cur_some hc; rw [ha]; simp
  have h2 : l.length = (lo floor l).length + (hi floor l).length := by rw [← List.length_append, hs]
  rw [List.length_append]; omega
/-- Pruned by a lower floor ahead of that. -/
theorem prune_prune {m : Int} {l : List En} (h : goodL m l = true) {a b : Int} (hab : a ≤ b) : pruneS m (pruneS m l a) b = pruneS m l b := by
  rw [prune_eq (good_prune h a), prune_eq h, prune_eq h, lo_append, hi_append]
  have h1 : lo b (cur (lo a l)).toList = (cur (lo a l)).toList := lo_all fun e he => by
    have := (mem_lo.1 (mem_cur he).1).2; omega
  have h2 : hi b (cur (lo a l)).toList = [] := hi_none fun e he => by
    have := (mem_lo.1 (mem_cur he).1).2; omega
  have hs := lo_hi (ver := a) (good_rise h).1
  have h3 : lo b l = lo a l ++ lo b (hi a l) := by
    conv => lhs; rw [← hs, lo_append]
    rw [lo_lo hab]
  have h4 : hi b l = hi b (hi a l) := by
    conv => lhs; rw [← hs, hi_append]
    rw [hi_none (l := lo a l) fun e he => by have := (mem_lo.1 he).2; omega]; rfl
  rw [h1, h2, cur_toList, ← h3, h4]; rfl
/-- .. behind it. -/
theorem prune_behind {m : Int} {l : List En} (h : goodL m l = true) {a b : Int} (hab : a ≤ b) : pruneS m (pruneS m l b) a = pruneS m l b := by
  rw [prune_eq (good_prune h b), prune_eq h, lo_append, hi_append]
  have h1 : lo a (hi b l) = [] := lo_none fun e he => by have := (mem_hi.1 he).2; omega
  have h2 : hi a (hi b l) = hi b l := hi_all fun e he => by have := (mem_hi.1 he).2; omega
  rw [h1, h2, List.append_nil]
  cases hc : cur (lo b l) with
  | none => rfl
  | some e =>
    obtain ⟨x, _, he⟩ := cur_some hc
    by_cases hv : e.v ≤ a
    · rw [lo_all (l := (some e).toList) (by intro y hy; rw [show y = e by simpa using hy]; exact hv), hi_none (l := (some e).toList) (by intro y hy; rw [show y = e by simpa using hy]; exact hv)]
      show (cur ([] ++ [e])).toList ++ _ = _
      rw [cur_snoc, he]; rfl
    · rw [lo_none (l := (some e).toList) (by intro y hy; rw [show y = e by simpa using hy]; omega), hi_all (l := (some e).toList) (by intro y hy; rw [show y = e by simpa using hy]; omega)]
      rfl
/-- At most one entry is not above the floor, and that one is no Delete. -/
theorem prune_low {m : Int} {l : List En} (h : goodL m l = true) {floor : Int} {i : Nat} {e : En} (he : (pruneS m l floor)[i]? = some e) (hv : e.v ≤ floor) : i = 0 ∧ e.o ≠ 3 := by
  rw [prune_eq h] at he
  have hb : ∀ j : Nat, (hi floor l)[j]? ≠ some e := fun j hj => by have := (mem_hi.1 (List.mem_of_getElem? hj)).2; omega
  cases hc : cur (lo floor l) with
  | none =>
    rw [hc] at he
    exact absurd he (hb i)
  | some x =>
    rw [hc] at he
    obtain ⟨a, _, hx⟩ := cur_some hc
    cases i with
    | zero =>
      obtain rfl : x = e := by simpa using he
      exact ⟨rfl, fun h3 => by rw [h3] at hx; cases hx⟩
    | succ i => exact absurd (by simpa using he) (hb i)
end Go.Proofs.YtbppemcdphgknaaDoor
/- Chapter 13, the plain law: what is put. -/
namespace Go.Proofs.YtbppemcdphgknaaDoor
open Go Go.Vm
set_option linter.unusedSimpArgs false
set_option linter.unusedVariables false
def lt (ver : Int) (l : List En) : List En := l.filter fun e => decide (e.v < ver)
theorem lt_all {v : Int} {l : List En} (h : ∀ e ∈ l, e.v < v) : lt v l = l := List.filter_eq_self.2 fun e he => by simpa using h e he
theorem lt_append (v : Int) (a b : List En) : lt v (a ++ b) = lt v a ++ lt v b := List.filter_append ..
theorem mem_lt {v : Int} {l : List En} {e : En} : e ∈ lt v l ↔ e ∈ l ∧ e.v < v := by simp [lt]
theorem lo_lt {a v : Int} (h : a < v) (l : List En) : lo a (lt v l) = lo a l := by
  unfold lo lt
  rw [List.filter_filter]
  congr 1
  funext e
  rw [Bool.eq_iff_iff]
  simp
  omega
theorem rise_last {a : List En} {e : En} (h : Rise (a ++ [e])) : ∀ x ∈ a, x.v < e.v := fun x hx => (List.pairwise_append.1 h).2.2 x hx e (by simp)
theorem lastLe_snoc (a : List En) (e : En) (ver : Int) : lastLe (a ++ [e]) ver = decide (e.v ≤ ver) := by
  unfold lastLe
  rw [last_get]
  simp
theorem lastLe_all {l : List En} {ver : Int} (hr : Rise l) (h : lastLe l ver = true) : ∀ e ∈ l, e.v ≤ ver := by
  by_cases hl : l = []
  · subst hl; intro e he; cases he
  · obtain ⟨a, x, rfl⟩ := snoc_of hl
    rw [lastLe_snoc, decide_eq_true_eq] at h
    intro e he
    rcases List.mem_append.1 he with he | he
    · have := rise_last hr e he; omega
    · rw [List.mem_singleton.1 he]; exact h
theorem good_one {m : Int} {x : En} (hm : 1 ≤ m ∧ m ≤ 2) (h1 : 0 < x.v) (h2 : known x.o = true) (h3 : mayE m x = true) (h4 : x.o ≠ 3) : goodL m [x] = true := by
  refine good_of hm ?_
  rw [gch_cons, Bool.and_eq_true]
  refine ⟨?_, rfl⟩
  simp only [stepE, Bool.and_eq_true, decide_eq_true_eq]
  exact ⟨⟨⟨h1, h2⟩, h3⟩, by simp [h4]⟩
theorem good_snoc {m : Int} {a : List En} {e x : En} (h : goodL m (a ++ [e]) = true) (h1 : e.v < x.v) (h2 : known x.o = true) (h3 : mayE m x = true) (h4 : was x.o = is e.o) : goodL m (a ++ [e] ++ [x]) = true := by
  refine good_of (good_m h) ?_
  rw [gch_append, Bool.and_eq_true]
  refine ⟨good_gch h, ?_⟩
  simp only [List.getLast?_append, List.getLast?_singleton, Option.some_or]
  rw [gch_cons, Bool.and_eq_true]
  refine ⟨?_, rfl⟩
  simp only [stepE, Bool.and_eq_true, decide_eq_true_eq]
  exact ⟨⟨⟨h1, h2⟩, h3⟩, by simp [h4]⟩
theorem mayE_new {m ver op : Int} {c : En} {i : Bool} (h : mayC m i c.n c.a c.b c.p c.q = true) (hi : is op = i) : mayE m (newE ver op c) = true := by
  show mayC m (is op) c.n c.a c.b c.p c.q = true
  rw [hi]; exact h
theorem putS_snoc (a : List En) (e : En) (ver : Int) (c : En) (i : Bool) : putS (a ++ [e]) ver c i = if e.v = ver then
      (if (thenV e.o (ofV (is e.o) i)).1 = 0 ∨ ((thenV e.o (ofV (is e.o) i)).1 = 3 ∧ a = []) then a else a ++ [newE ver (thenV e.o (ofV (is e.o) i)).1 c])
    else (if ofV (is e.o) i = 0 then a ++ [e] else a ++ [e] ++ [newE ver (ofV (is e.o) i) c]) := by
  unfold putS
  rw [last_get]
  simp
theorem putS_form {m : Int} {l : List En} {ver : Int} {c : En} {i : Bool} (h : goodL m l = true) (hle : lastLe l ver = true) (hv : 1 ≤ ver) (hc : mayC m i c.n c.a c.b c.p c.q = true) :
    goodL m (putS l ver c i) = true ∧ ((∃ op, putS l ver c i = lt ver l ++ [newE ver op c] ∧ is op = i) ∨ (putS l ver c i = lt ver l ∧ i = false ∧ cur (lt ver l) = none)) := by
  have hm := good_m h
  by_cases hl : l = []
  · subst hl
    cases i with
    | true => exact ⟨good_one hm (show 0 < ver by omega) rfl (mayE_new hc rfl) (by show (1 : Int) ≠ 3; omega), .inl ⟨1, rfl, rfl⟩⟩
    | false => exact ⟨good_nil hm, .inr ⟨rfl, rfl, rfl⟩⟩
  · obtain ⟨a, e, rfl⟩ := snoc_of hl
    have hr := (good_rise h).1
    have hra := rise_last hr
    rw [lastLe_snoc, decide_eq_true_eq] at hle
    rw [putS_snoc]
    have hga := good_prefix h
    by_cases hev : e.v = ver
    · have hp : lt ver (a ++ [e]) = a := by
        rw [lt_append, lt_all (l := a) fun x hx => by have := hra x hx; omega]
        simp [lt, hev]
      rw [if_pos hev, hp]
      -- a new last entry with the same 'was'
      have key : ∀ op : Int, known op = true → is op = i → was op = was e.o → (a = [] → op ≠ 3) → goodL m (a ++ [newE ver op c]) = true := fun op h1 h2 h3 h4 => by
        by_cases ha : a = []
        · subst ha
          exact good_one hm (show 0 < ver by omega) h1 (mayE_new hc h2) (h4 rfl)
        · obtain ⟨b, y, rfl⟩ := snoc_of ha
          exact good_snoc hga (show y.v < ver by have := hra y (by simp); omega) h1 (mayE_new hc h2) (show was op = is y.o by rw [h3]; exact good_was h)
      have hcur : was e.o = false → cur a = none := fun hw => by
        by_cases ha : a = []
        · subst ha; rfl
        · obtain ⟨b, y, rfl⟩ := snoc_of ha
          rw [cur_snoc, if_neg]
          rw [← good_was h, hw]; simp
      have hfst : a = [] → e.o ≠ 3 := fun ha => by subst ha; exact good_first h
      rcases good_known h (by simp : e ∈ a ++ [e]) with ho | ho | ho
      · cases i with
        | true =>
          have e1 : (thenV e.o (ofV (is e.o) true)).1 = 1 := by rw [ho]; rfl
          rw [e1, if_neg (by omega)]
          exact ⟨key 1 rfl rfl (by rw [ho]) (fun _ => by omega), .inl ⟨1, rfl, rfl⟩⟩
        | false =>
          have e1 : (thenV e.o (ofV (is e.o) false)).1 = 0 := by rw [ho]; rfl
          rw [e1, if_pos (.inl rfl)]
          exact ⟨hga, .inr ⟨rfl, rfl, hcur (by rw [ho]; rfl)⟩⟩
      · cases i with
        | true =>
          have e1 : (thenV e.o (ofV (is e.o) true)).1 = 2 := by rw [ho]; rfl
          rw [e1, if_neg (by omega)]
          exact ⟨key 2 rfl rfl (by rw [ho]) (fun _ => by omega), .inl ⟨2, rfl, rfl⟩⟩
        | false =>
          have e1 : (thenV e.o (ofV (is e.o) false)).1 = 3 := by rw [ho]; rfl
          rw [e1]
          by_cases ha : a = []
          · rw [if_pos (.inr ⟨rfl, ha⟩)]
            exact ⟨hga, .inr ⟨rfl, rfl, by rw [ha]; rfl⟩⟩
          · rw [if_neg (by rintro (h0 | ⟨_, h0⟩); · omega
                           · exact ha h0)]
            exact ⟨key 3 rfl rfl (by rw [ho]; rfl) (fun h0 => absurd h0 ha), .inl ⟨3, rfl, rfl⟩⟩
      · have ha : a ≠ [] := fun ha => hfst ha ho
        cases i with
        | true =>
          have e1 : (thenV e.o (ofV (is e.o) true)).1 = 2 := by rw [ho]; rfl
          rw [e1, if_neg (by omega)]
          exact ⟨key 2 rfl rfl (by rw [ho]; rfl) (fun h0 => absurd h0 ha), .inl ⟨2, rfl, rfl⟩⟩
        | false =>
          have e1 : (thenV e.o (ofV (is e.o) false)).1 = 3 := by rw [ho]; rfl
          rw [e1, if_neg (by rintro (h0 | ⟨_, h0⟩); · omega
                             · exact ha h0)]
          exact ⟨key 3 rfl rfl (by rw [ho]) (fun h0 => absurd h0 ha), .inl ⟨3, rfl, rfl⟩⟩
    · have hp : lt ver (a ++ [e]) = a ++ [e] := lt_all fun x hx => by
        rcases List.mem_append.1 hx with hx | hx
        · have := hra x hx; omega
        · rw [List.mem_singleton.1 hx]; omega
      rw [if_neg hev, hp]
      have key : ∀ op : Int, known op = true → is op = i → was op = is e.o → goodL m (a ++ [e] ++ [newE ver op c]) = true := fun op h1 h2 h3 =>
        good_snoc h (show e.v < ver by omega) h1 (mayE_new hc h2) h3
      cases hi : is e.o with
      | true =>
        cases i with
        | true =>
          have e1 : ofV true true = 2 := rfl
          rw [e1, if_neg (by omega)]
          exact ⟨key 2 rfl rfl (by rw [hi]; rfl), .inl ⟨2, rfl, rfl⟩⟩
        | false =>
          have e1 : ofV true false = 3 := rfl
          rw [e1, if_neg (by omega)]
          exact ⟨key 3 rfl rfl (by rw [hi]; rfl), .inl ⟨3, rfl, rfl⟩⟩
      | false =>
        cases i with
        | true =>
          have e1 : ofV false true = 1 := rfl
          rw [e1, if_neg (by omega)]
          exact ⟨key 1 rfl rfl (by rw [hi]; rfl), .inl ⟨1, rfl, rfl⟩⟩
        | false =>
          have e1 : ofV false false = 0 := rfl
          rw [e1, if_pos rfl]
          exact ⟨h, .inr ⟨rfl, rfl, by rw [cur_snoc, hi]; rfl⟩⟩

/-- Put answers, and what it told. -/
theorem okP_iff {m keep : Int} {l : List En} {ver : Int} {c : En} {i : Bool} : okP m keep l ver c i = true ↔ goodL m l = true ∧ 2 ≤ keep ∧ keep ≤ 8 ∧ 1 ≤ ver ∧ lastLe l ver = true ∧ mayC m i c.n c.a c.b c.p c.q = true := by
  simp [okP, and_assoc]
theorem putA_some {m keep : Int} {l : List En} {ver : Int} {c : En} {i : Bool} {floor : Int} {l' : List En} (h : putA m keep l ver c i floor = some l') :
    okP m keep l ver c i = true ∧ l' = afterP m keep floor (putS l ver c i) ∧ (l'.length : Int) ≤ keep + 1 := by
  unfold putA at h
  cases ho : okP m keep l ver c i with
  | false => rw [ho] at h; cases h
  | true =>
    rw [ho] at h
    simp only at h
    split at h
    · cases h
    · rename_i hn
      obtain rfl := Option.some.inj h
      exact ⟨rfl, rfl, by omega⟩
theorem good_after {m keep floor : Int} {out : List En} (h : goodL m out = true) : goodL m (afterP m keep floor out) = true := by
  unfold afterP
  split
  · exact good_prune h floor
  · exact h
theorem put_good {m keep : Int} {l : List En} {ver : Int} {c : En} {i : Bool} {floor : Int} {l' : List En} (h : putA m keep l ver c i floor = some l') : goodL m l' = true := by
  obtain ⟨h1, rfl, _⟩ := putA_some h
  obtain ⟨g1, _, _, g4, g5, g6⟩ := okP_iff.1 h1
  exact good_after (putS_form g1 g5 g4 g6).1
/-- Refused, although all may be: the chain has more entries than versions are kept. -/
theorem put_none {m keep : Int} {l : List En} {ver : Int} {c : En} {i : Bool} {floor : Int} (h : putA m keep l ver c i floor = none) (ho : okP m keep l ver c i = true) : keep < (l.length : Int) := by
  unfold putA at h
  rw [ho] at h
  simp only at h
  split at h
  · rename_i hn
    have hg := okP_iff.1 ho
    have := putS_len l ver c i
    have h2 : (afterP m keep floor (putS l ver c i)).length ≤ (putS l ver c i).length := by
      unfold afterP
      split
      · exact prune_len (putS_form hg.1 hg.2.2.2.2.1 hg.2.2.2.1 hg.2.2.2.2.2).1 floor
      · exact Nat.le_refl _
    omega
  · cases h
/-- All of it is not above the version in which something is put. -/
theorem putS_le {m : Int} {l : List En} {ver : Int} {c : En} {i : Bool} (h : goodL m l = true) (hle : lastLe l ver = true) (hv : 1 ≤ ver) (hc : mayC m i c.n c.a c.b c.p c.q = true) : ∀ e ∈ putS l ver c i, e.v ≤ ver := fun e he => by
  rcases (putS_form h hle hv hc).2 with ⟨op, h1, _⟩ | ⟨h1, _⟩
  · rw [h1] at he
    rcases List.mem_append.1 he with he | he
    · have := (mem_lt.1 he).2; omega
    · rw [List.mem_singleton.1 he]; exact Int.le_refl _
  · rw [h1] at he
    have := (mem_lt.1 he).2; omega
theorem cur_putS {m : Int} {l : List En} {ver : Int} {c : En} {i : Bool} (h : goodL m l = true) (hle : lastLe l ver = true) (hv : 1 ≤ ver) (hc : mayC m i c.n c.a c.b c.p c.q = true) :
    (i = true → ∃ op, cur (putS l ver c i) = some (newE ver op c)) ∧ (i = false → cur (putS l ver c i) = none) := by
  rcases (putS_form h hle hv hc).2 with ⟨op, h1, h2⟩ | ⟨h1, h2, h3⟩
  · rw [h1, cur_snoc]
    exact ⟨fun hi => ⟨op, by rw [if_pos (by show is op = true; rw [h2, hi])]⟩, fun hi => by rw [if_neg (by show ¬ is op = true; rw [h2, hi]; simp)]⟩
  · rw [h1]
    exact ⟨fun hi => (by rw [hi] at h2; cases h2), fun _ => h3⟩
theorem after_cur {m keep floor : Int} {out : List En} (h : goodL m out = true) : cur (afterP m keep floor out) = cur out := by
  unfold afterP
  split
  · rw [prune_eq h, cur_toList, lo_hi (good_rise h).1]
  · rfl
theorem after_mem {m keep floor : Int} {out : List En} (h : goodL m out = true) {e : En} (he : e ∈ afterP m keep floor out) : e ∈ out := by
  unfold afterP at he
  split at he
  · rw [prune_eq h] at he
    rcases List.mem_append.1 he with he | he
    · exact (mem_lo.1 (mem_cur he).1).1
    · exact (mem_hi.1 he).1
  · exact he
/-- What was put is there from its version on. -/
theorem put_there {m keep : Int} {l : List En} {ver : Int} {c : En} {i : Bool} {floor : Int} {l' : List En} (h : putA m keep l ver c i floor = some l') {at_ : Int} (ha : ver ≤ at_) :
    (i = true → ∃ op, atS m l' at_ = some (newE ver op c)) ∧ (i = false → atS m l' at_ = none) := by
  have hg := put_good h
  obtain ⟨h1, rfl, _⟩ := putA_some h
  obtain ⟨g1, _, _, g4, g5, g6⟩ := okP_iff.1 h1
  have hS := (putS_form g1 g5 g4 g6).1
  rw [at_eq hg, lo_all fun e he => by have := putS_le g1 g5 g4 g6 e (after_mem hS he); omega, after_cur hS]
  exact cur_putS g1 g5 g4 g6
theorem at_after {m keep floor : Int} {out : List En} (h : goodL m out = true) {at_ : Int} (hf : floor ≤ at_) : atS m (afterP m keep floor out) at_ = atS m out at_ := by
  unfold afterP
  split
  · exact at_prune h hf
  · rfl
/-- What was there ahead of it, from the floor on, is there. -/
theorem put_ahead {m keep : Int} {l : List En} {ver : Int} {c : En} {i : Bool} {floor : Int} {l' : List En} (h : putA m keep l ver c i floor = some l') {at_ : Int} (ha : at_ < ver) (hf : floor ≤ at_) : atS m l' at_ = atS m l at_ := by
  obtain ⟨h1, rfl, _⟩ := putA_some h
  obtain ⟨g1, _, _, g4, g5, g6⟩ := okP_iff.1 h1
  obtain ⟨hS, hF⟩ := putS_form g1 g5 g4 g6
  rw [at_after hS hf, at_eq hS, at_eq g1]
  rcases hF with ⟨op, e1, _⟩ | ⟨e1, _⟩
  · rw [e1, lo_append, lo_lt ha, lo_none (l := [newE ver op c]) fun e he => by rw [List.mem_singleton.1 he]; exact ha, List.append_nil]
  · rw [e1, lo_lt ha]
end Go.Proofs.YtbppemcdphgknaaDoor
