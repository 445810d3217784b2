/- slices.Values at slices of counters, its iterator, slices.AppendSeq and slices.Collect over it: a new slice that holds the counters. -/
import Derived.RangeFuncBox
import Derived.RangeFuncLeaves
import Derived.RangeFuncCalls
import Derived.RangeFuncNested
import Derived.Maps.AppendAt
import Derived.Shelf.Abstract
import Derived.WalkKit
import Derived.OwnWalkIn
import Derived.TacticsInMore
import Derived.LoopNIn
import Derived.LoopIn
import Derived.Test.YtdffhffhnjkcpaaX0
namespace Go.Proofs.Ytdffhffhnjkcpaa
open Go Go.Proofs Go.RowKit Go.Shelf
open X (S70 z70)
attribute [local go_sem] Oper.semAt_some
def Vs.upto {α : Type} (f : Nat → α) (k : Nat) : List α := (List.range k).map f
theorem Vs.upto_succ {α : Type} (f : Nat → α) (k : Nat) : Vs.upto f (k + 1) = Vs.upto f k ++ [f k] := by simp [Vs.upto, List.range_succ]
theorem Vs.upto_length {α : Type} (f : Nat → α) (k : Nat) : (Vs.upto f k).length = k := by simp [Vs.upto]
theorem Vs.upto_all (zs : List S70) : Vs.upto (fun j => zs[j]?.getD z70) zs.length = zs := by
  apply List.ext_getElem
  · simp [Vs.upto]
  · intro i h1 h2
    simp [Vs.upto, h2]
theorem Vs.upto_take (zs : List S70) {k : Nat} (hk : k ≤ zs.length) : Vs.upto (fun j => zs[j]?.getD z70) k = zs.take k := by
  apply List.ext_getElem
  · simp [Vs.upto, hk]
  · intro i h1 h2
    have : i < zs.length := by simp [Vs.upto] at h1; omega
    simp [Vs.upto, this]
/-- Element j of a row of counters that begins at block g. -/
def Vs.El (W : World) (g j : Nat) (x : S70) : Prop := W.cell? ⟨g, j * 3, none⟩ = some (.int .i64 x.f0) ∧ W.cell? ⟨g, j * 3 + 1, none⟩ = some (.int .i64 x.f1) ∧ W.cell? ⟨g, j * 3 + 2, none⟩ = some (.int .i64 x.f2)
theorem Vs.El.below {n₀ : Nat} {A B : World} (h : Below n₀ A B) {g j : Nat} {x : S70} (hg : g < n₀) (e : Vs.El A g j x) : Vs.El B g j x :=
  ⟨(h.cell (p := ⟨g, j * 3, none⟩) hg).trans e.1, (h.cell (p := ⟨g, j * 3 + 1, none⟩) hg).trans e.2.1, (h.cell (p := ⟨g, j * 3 + 2, none⟩) hg).trans e.2.2⟩

set_option maxRecDepth 100000 in
set_option maxHeartbeats 2000000 in
theorem Vs.values1_in (F : Fence) (n : Nat) (h7 : F.fn 112) (hro : F.round = none) (hn : 1 ≤ n) (l Bs n₀ : Nat) (g len cap : Nat) (zs : List S70) (hreach : len * 24 ≤ 140737488351232) (hb : g < n₀) (J Jx : List S70 → World → Prop)
    (hY : ∀ pre x W, J pre W → pre.length < len → YieldAt F (n - 1) Try.prog l #[.agg #[.int .i64 x.f0, .int .i64 x.f1, .int .i64 x.f2]] W fun e W' =>
      (e = .returned (.bool true) ∧ J (pre ++ [x]) W' ∧ Below n₀ W W') ∨ (e = .returned (.bool false) ∧ Jx (pre ++ [x]) W'))
    (W : World) (hn₀ : n₀ ≤ W.heap.size) (hJA : AbidesFrom W.heap.size J) (hBs : W.cell? ⟨Bs, 0, none⟩ = some (.slice (some ⟨g, 0, none⟩) len cap)) (hc : ∀ j, j < len → Vs.El W g j (zs[j]?.getD z70)) (h0 : J [] W) :
    CallsIn F n Try.prog 112 #[.func (.yield l) #[] #[], .pointer (some ⟨Bs, 0, none⟩)] W fun e W' => (∃ v, e = .returned v) ∧
      ((∃ ys, ys = Vs.upto (fun j => zs[j]?.getD z70) len ∧ J ys W') ∨ (∃ pre, (∃ k, k ≤ len ∧ pre = Vs.upto (fun j => zs[j]?.getD z70) k) ∧ Jx pre W')) := by
  refine callsIn_of_wp Try.func112 rfl h7 ?_ hro
  simp only [Try.ntmps112, List.size_toArray, List.length_cons, List.length_nil, Nat.reduceAdd, Nat.reduceSub, Array.replicate_succ, Array.replicate_zero, List.push_toArray, List.append_toArray, List.nil_append, List.cons_append]
  gi_wp2
  gi_loopw [7] (fun i wr => ∃ k : Nat, k ≤ len ∧ i = .int .i64 k ∧ J (Vs.upto (fun j => zs[j]?.getD z70) k) wr ∧ Below n₀ W wr)
    (fun i _ => len - (intOf i).toNat)
  case atStart => exact ⟨0, Nat.zero_le _, rfl, h0, Below.refl _ _⟩
  case round =>
    obtain ⟨k, hk, rfl, hJs, hnx⟩ := hrel
    by_cases hlt : k < len
    · obtain ⟨hx0, hx1, hx2⟩ := (hc k hlt).below hnx hb
      generalize hq : zs[k]?.getD z70 = q at hx0 hx1 hx2
      have hJ2 := hJA _ _ (wr.alloc (.cells #[.int .i64 q.f0, .int .i64 q.f1, .int .i64 q.f2] 70)) none hJs (World.grownBy_alloc _ _ none) (fun r e => by cases e)
      obtain ⟨fn, tmps, assign, body, hy, hR⟩ := hY _ q _ hJ2 (by rw [Vs.upto_length]; exact hlt)
      have hsz := hnx.size
      have hb2 : Below n₀ wr (wr.alloc (.cells #[.int .i64 q.f0, .int .i64 q.f1, .int .i64 q.f2] 70)) := (Below.refl _ wr).alloc (by omega) _
      gi_wp2
      refine hR.mono ?_
      rintro e W3 (⟨rfl, hJ3, hk3⟩ | ⟨rfl, hJx3⟩)
      · gi_wp2
        go_roundw
        case rel => exact ⟨k + 1, by omega, by simp, by rw [Vs.upto_succ, hq]; exact hJ3, (hnx.trans hb2).trans hk3⟩
        case measure => simp [intOf]; omega
      · gi_wp2
        refine bodyPost_ret (results_none rfl _ _ _) rfl ?_
        exact ⟨⟨_, rfl⟩, .inr ⟨_, ⟨k + 1, by omega, by rw [Vs.upto_succ, hq]⟩, hJx3⟩⟩
    · obtain rfl : k = len := by omega
      gi_wp2
      go_end0
      exact ⟨⟨_, rfl⟩, .inl ⟨_, rfl, hJs⟩⟩

def Vs.Rows (n₀ : Nat) (W : World) (sv : Value) (zs : List S70) : Prop :=
  (sv = .slice none 0 0 ∧ zs = []) ∨ ∃ g cap, sv = .slice (some ⟨g, 0, none⟩) zs.length cap ∧ g < n₀ ∧ ∀ j, j < zs.length → Vs.El W g j (zs[j]?.getD z70)
theorem Vs.Rows.below {n₀ : Nat} {A B : World} (h : Below n₀ A B) {sv : Value} {zs : List S70} : Vs.Rows n₀ A sv zs → Vs.Rows n₀ B sv zs
  | .inl e => .inl e
  | .inr ⟨g, cap, e, hb, hc⟩ => .inr ⟨g, cap, e, hb, fun j hj => (hc j hj).below h hb⟩

set_option maxRecDepth 100000 in
set_option maxHeartbeats 1000000 in
theorem Vs.values1_nil_in (F : Fence) (n : Nat) (h7 : F.fn 112) (hro : F.round = none) (l Bs : Nat) (J : List S70 → World → Prop) (W : World) (hBs : W.cell? ⟨Bs, 0, none⟩ = some (.slice none 0 0)) (h0 : J [] W) :
    CallsIn F n Try.prog 112 #[.func (.yield l) #[] #[], .pointer (some ⟨Bs, 0, none⟩)] W fun e W' => (∃ v, e = .returned v) ∧ J [] W' := by
  refine callsIn_of_wp Try.func112 rfl h7 ?_ hro
  simp only [Try.ntmps112, List.size_toArray, List.length_cons, List.length_nil, Nat.reduceAdd, Nat.reduceSub, Array.replicate_succ, Array.replicate_zero, List.push_toArray, List.append_toArray, List.nil_append, List.cons_append]
  gi_wp2
  gi_loopw [7] (fun i wr => i = .int .i64 0 ∧ J [] wr) (fun _ _ => 0)
  case atStart => exact ⟨rfl, h0⟩
  case round =>
    obtain ⟨rfl, hJs⟩ := hrel
    gi_wp2
    go_end0
    exact ⟨⟨_, rfl⟩, hJs⟩

set_option maxHeartbeats 1000000 in
theorem Vs.values_in (F : Fence) (n : Nat) (h5 : F.fn 97) (hro : F.round = none) (a : Option Addr) (len cap : Nat) (w : World) :
    CallsIn F n Try.prog 97 #[.slice a len cap] w fun e w' => e = .returned (.func (.func 112) #[] #[.pointer (some ⟨w.heap.size, 0, none⟩)]) ∧ w' = w.alloc (.cells #[.slice a len cap] 57) := by
  refine callsIn_of_wp Try.func97 rfl h5 ?_ hro
  simp only [Try.ntmps97, List.size_toArray, List.length_cons, List.length_nil, Nat.reduceAdd, Nat.reduceSub, Array.replicate_succ, Array.replicate_zero, List.push_toArray, List.append_toArray, List.nil_append, List.cons_append]
  gi_wp2
  go_ret
  exact ⟨rfl, rfl⟩

theorem Vs.values_stops (F : Fence) (n : Nat) (h7 : F.fn 112) (hro : F.round = none) (hn : 1 ≤ n) (Bs n₀ : Nat) (sv : Value) (zs : List S70) (hreach : zs.length * 24 ≤ 140737488351232) (w : World) (hBs : Bs < w.heap.size) (hn₀ : n₀ ≤ w.heap.size)
    (hc : w.cell? ⟨Bs, 0, none⟩ = some sv) (hI : Vs.Rows n₀ w sv zs) :
    SeqStopsK F n Try.prog 112 #[.pointer (some ⟨Bs, 0, none⟩)] (fun x : S70 => #[Value.agg #[.int .i64 x.f0, .int .i64 x.f1, .int .i64 x.f2]]) (Below n₀) (fun ys => ys = zs) (fun pre => pre <+: zs) zs.length w := fun l J Jx W hW hJA _ hY h0 => by
  have hc' := (hW.cell (p := ⟨Bs, 0, none⟩) hBs).trans hc
  rcases hI.below (hW.mono hn₀) with ⟨rfl, rfl⟩ | ⟨g, cap, rfl, hb, hcs⟩
  · exact (Vs.values1_nil_in F n h7 hro l Bs J W hc' h0).mono fun e W' ⟨he, hj⟩ => ⟨he, .inl ⟨_, rfl, hj⟩⟩
  · refine (Vs.values1_in F n h7 hro hn l Bs n₀ g zs.length cap zs hreach hb J Jx hY W (Nat.le_trans hn₀ hW.size) hJA hc' hcs h0).mono ?_
    rintro e W' ⟨he, ⟨ys, rfl, hj⟩ | ⟨pre, ⟨k, hk, rfl⟩, hj⟩⟩
    · exact ⟨he, .inl ⟨_, Vs.upto_all zs, hj⟩⟩
    · exact ⟨he, .inr ⟨_, by rw [Vs.upto_take zs hk]; exact List.take_prefix _ _, hj⟩⟩

/-- The cells of counters. -/
def Vs.enc (x : S70) : List Value := [.int .i64 x.f0, .int .i64 x.f1, .int .i64 x.f2]
def Vs.flat (zs : List S70) : List Value := zs.flatMap Vs.enc
theorem Vs.flat_snoc (zs : List S70) (x : S70) : Vs.flat (zs ++ [x]) = Vs.flat zs ++ [.int .i64 x.f0, .int .i64 x.f1, .int .i64 x.f2] := by simp [Vs.flat, Vs.enc]

theorem Vs.three_new (W : World) (a b c : Value) (t : TypeId) : ∀ j u, [a, b, c][j]? = some u → (W.alloc (.cells #[a, b, c] t)).cell? ((⟨W.heap.size, 0, none⟩ : Addr).add j) = some u := by
  intro j u h
  have hb : (W.alloc (.cells #[a, b, c] t)).heap[W.heap.size]? = some (.cells #[a, b, c] t (0, 0)) := heap_alloc_new _ _
  have e : ((⟨W.heap.size, 0, none⟩ : Addr).add j) = ⟨W.heap.size, j, none⟩ := by simp [Addr.add]; omega
  rw [e, cell_of_row _ _ _ _ _ _ hb]
  simpa using h
set_option maxRecDepth 100000 in
set_option maxHeartbeats 2000000 in
theorem Vs.append_in (F : Fence) (n : Nat) (h149 : F.fn 118) (h138 : F.fn 112) (hro : F.round = none) (hn : 3 ≤ n) (Bs : Nat) (sv : Value) (zs : List S70) (hlen : zs.length ≤ maxLen) (hbytes : zs.length * 24 ≤ 140737488351232) (w : World) (hBs : Bs < w.heap.size)
    (hc0 : w.cell? ⟨Bs, 0, none⟩ = some sv) (hI : Vs.Rows w.heap.size w sv zs) :
    CallsIn F n Try.prog 118 #[.slice none 0 0, .func (.func 112) #[] #[.pointer (some ⟨Bs, 0, none⟩)]] w fun e W' => ∃ v, e = .returned v ∧ W'.ownsRow w.heap.size 70 3 v zs.length (Vs.flat zs) ∧ (v = .slice none 0 0 ↔ zs = []) ∧ Below w.heap.size w W' := by
  have h1 : 1 ≤ n := by omega
  obtain ⟨i0, hi, hz0, hz1, hz2⟩ := info_parts X.info70
  refine callsIn_of_wp_marks Try.func118 rfl h149 ?_ hro
  simp only [Try.ntmps118, List.size_toArray, List.length_cons, List.length_nil, Nat.reduceAdd, Nat.reduceSub, Array.replicate_succ, Array.replicate_zero, List.push_toArray, List.append_toArray, List.nil_append, List.cons_append]
  gi_wp2
  have bO := Boxed.new w 57 (.slice none 0 0)
  have hB0 : Below w.heap.size w (w.alloc (.cells #[.slice none 0 0] 57)) := (Below.refl _ w).alloc (Nat.le_refl _) _
  refine wpIn_rangeFunc_ownH hro h1 (gf := 112) (lb := #[.pointer (some ⟨Bs, 0, none⟩)]) rfl h138 (enters_of Try.func112 (by kernel_rfl) rfl)
    (Vs.values_stops F (n - 1) h138 hro (by omega) Bs w.heap.size sv zs hbytes _ (by simp; omega) (by simp) ((hB0.cell (p := ⟨Bs, 0, none⟩) hBs).trans hc0) (hI.below hB0)) belowK_t (belowK_b (by simp)) (Below.refl _ _) (fun _ => rfl)
    (fun pre W => (∃ v, Boxed W w.heap.size 57 v ∧ W.ownsRow w.heap.size 70 3 v pre.length (Vs.flat pre) ∧ (v = .slice none 0 0 ↔ pre = [])) ∧ Below w.heap.size w W)
    (fun _ _ _ => False)
    (OwnFrom.and (Own.from (holdsRow_own w.heap.size w.heap.size 57 70 3 (fun pre : List S70 => pre.length) (fun pre => Vs.flat pre) (fun pre v => v = .slice none 0 0 ↔ pre = [])) _) (ownFrom_below (Nat.le_refl _) (by simp)))
    (fun _ _ _ _ _ hs _ _ => hs)
    ⟨⟨_, bO, World.ownsRow_nil _ _ _ _, by simp⟩, hB0⟩
    (fun x a' W => ∃ Bx, w.heap.size < Bx ∧ Bx < W.heap.size ∧ W.heap[Bx]? = some (.cells #[.int .i64 x.f0, .int .i64 x.f1, .int .i64 x.f2] 70 (0, 0)) ∧ a' = { tmps := #[.slice none 0 0, .func (.func 112) #[] #[.pointer (some ⟨Bs, 0, none⟩)], .pointer (some ⟨w.heap.size, 0, none⟩), undef, .slice none 0 0, .pointer (some ⟨Bx, 0, none⟩), .func (.func 112) #[] #[.pointer (some ⟨Bs, 0, none⟩)], .agg #[.int .i64 x.f0, .int .i64 x.f1, .int .i64 x.f2], undef, undef, undef, undef, undef], defers := [] })
    (fun x a' _ X Y row hs hg hr => by
      obtain ⟨Bx, h1, h2, h3, h4⟩ := hs
      refine ⟨Bx, h1, Nat.lt_of_lt_of_le h2 hg.size, (hg.block Bx h2 (fun e => ?_)).trans h3, h4⟩
      obtain ⟨_, o, ho, hc⟩ := hr Bx e.symm
      rw [h3] at ho
      injection ho with ho
      subst ho
      cases hc)
    ?assign ?body ?done ?stop
  case assign =>
    rintro l pre x W K ⟨⟨v, hv, hrow, hnil⟩, hB⟩ hK
    gi_wp2
    refine hK _ _ ((KeepsOthers.alloc _ _).from _) ((Below.refl _ W).alloc hB.size _) ⟨⟨v, hv.alloc _, hrow.alloc _, hnil⟩, hB.alloc hB.size _⟩ ⟨W.heap.size, hv.lt, by simp, heap_alloc_new _ _, rfl⟩
  case body =>
    rintro l pre x a' W hl hr ⟨⟨v, hv, hrow, hnil⟩, hB⟩ ⟨Bx, hBx, hBx2, hbx, rfl⟩ hlt
    have hc := hv.cell
    have hx0 : W.cell? ⟨Bx, 0, none⟩ = some (.int .i64 x.f0) := (cell_of_row W Bx 0 _ _ _ hbx).trans rfl
    have hx1 : W.cell? ⟨Bx, 1, none⟩ = some (.int .i64 x.f1) := (cell_of_row W Bx 1 _ _ _ hbx).trans rfl
    have hx2 : W.cell? ⟨Bx, 2, none⟩ = some (.int .i64 x.f2) := (cell_of_row W Bx 2 _ _ _ hbx).trans rfl
    gi_wp2_with (gi_at_builtin; refine wpListIn_append_own _ rfl _ _ 57 rfl w.heap.size 70 i0 (.agg #[.int .i64 0, .int .i64 0, .int .i64 0]) 3 24 Try.underlying57 hi hz0 hz1 hz2 rfl (by decide) _ _ _ rfl (hrow.alloc _) ⟨W.heap.size, 0, none⟩ 1 1 [.int .i64 x.f0, .int .i64 x.f1, .int .i64 x.f2] rfl rfl (Vs.three_new _ _ _ _ _) (by simp [Value.oneCell']) (by omega) (by omega) (by have := hB.size; simp; omega) ?_; intro v' w1 hown' hgrow _; obtain ⟨g', cap', rfl⟩ := ownsRow_succ hown'; obtain ⟨hv1, hv2, hr2, hk2, hb2⟩ := hv.appended (by decide) hrow hB.size (Nat.le_refl _) hown' hgrow; have hc1 := hv1.cell; have hf1 := hv1.frozen)
    exact ⟨hk2.from _, hb2, ⟨_, hv2, by rw [Vs.flat_snoc]; simpa using hr2, by simp⟩, hB.trans hb2⟩
  case done =>
    rintro D ys W hD rfl ⟨⟨v, hv, hrow, hnil⟩, hB⟩ hK
    have hc := hv.cell
    gi_wp2
    refine ⟨by simp, .inl ⟨_, _, rfl, run_takeDeferred hK, ?_⟩⟩
    exact ⟨_, results_tmp rfl _ _ _, v, rfl, ownsRow_putObj hrow _ hK rfl, hnil, hB.trans (belowK_b (w := w) (Nat.le_refl _) W D _ _ (by simp at hD; omega) hK rfl rfl)⟩
  case stop =>
    rintro D c pre W _ _ h _
    exact h.elim
end Go.Proofs.Ytdffhffhnjkcpaa
