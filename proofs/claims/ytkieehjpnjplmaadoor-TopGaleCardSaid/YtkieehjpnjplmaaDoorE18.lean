/- The walk of a puzzle's valid: slices.ContainsFunc and IndexFunc at rows, with the closures that ask whether a row is no clue. -/
import Derived.Test.YtkieehjpnjplmaaDoorE18p
import Derived.RegionTactic
import Derived.BigRegion
import Derived.Test.YtkieehjpnjplmaaDoorXf35
namespace Go.Proofs.YtkieehjpnjplmaaDoor.X
open Go.RowKit Go.Proofs.YtkieehjpnjplmaaDoorW.PrintWords Go.Proofs.YtkieehjpnjplmaaDoorW.PrintLast Go.Proofs.YtkieehjpnjplmaaDoorW.PrintMore
set_option linter.unusedVariables false
set_option linter.unusedSimpArgs false


/-- what valid tells -/
def xValid.f (k : Nat) (a b : List (List Int)) : Option Bool :=
  if sizeB a.length = true then (if sizeB b.length = true then ((anyNot k b.length a).bind fun x => if x = true then some false else ((anyNot k a.length b).bind fun y => some (!y))) else some false) else some false
theorem xValid.mono : ∀ a b k, LeO (xValid.f k a b) (xValid.f (k + 1) a b) := by
  intro a b k
  unfold xValid.f
  refine LeO.ite (LeO.ite (LeO.bind (anyNot.mono _ _ _) fun x => LeO.ite (LeO.refl _) (LeO.bind (anyNot.mono _ _ _) fun y => LeO.refl _)) (LeO.refl _)) (LeO.refl _)

set_option maxHeartbeats 8000000 in
set_option maxRecDepth 100000 in
theorem xValid.calls (k : Nat) (A0 : Option Addr) (c0 : Nat) (l0 : List (List Int)) (A1 : Option Addr) (c1 : Nat) (l1 : List (List Int)) (r : Bool) (w : World) (hr0 : Kd.C (Kd.slice 3 (Kd.int .i64)) w A0 l0.length l0) (hc0 : l0.length ≤ c0) (hr1 : Kd.C (Kd.slice 3 (Kd.int .i64)) w A1 l1.length l1) (hc1 : l1.length ≤ c1) (h : xValid.f k l0 l1 = some r) (hG0 : GL w := by exact GL.to HG.out (hbC _)) :
    Calls Tryd.prog 18 #[.agg #[.slice A0 l0.length c0, .slice A1 l1.length c1]] w fun e w' => e = .returned (.bool r) ∧ Below w.heap.size w w' := by
  have HB := ak (Below.refl w.heap.size w)
  have HR0 := ak hr0
  have HR1 := ak hr1
  have HG := ak hG0
  have H := ak h
  have h1 : ∀ W, Calls Tryd.prog 27 #[.int .i64 (l0.length : Int)] W fun e w' => e = .returned (.bool (sizeB l0.length)) ∧ Drawn0 W w' := fun W => squares_isSize.calls _ _ W (size_f _)
  have h2 : ∀ W, Calls Tryd.prog 27 #[.int .i64 (l1.length : Int)] W fun e w' => e = .returned (.bool (sizeB l1.length)) ∧ Drawn0 W w' := fun W => squares_isSize.calls _ _ W (size_f _)
  have HA0 := ak (fun (B : Nat) (W : World) (x : Bool) (hb : Below w.heap.size w W) (hB : W.cell? ⟨B, 0, none⟩ = some (.int .i64 (l1.length : Int))) (hx : anyNot k l1.length l0 = some x) => any33_34 k B l1.length A0 c0 l0 x W hB (Kd.C_below HR0.out hb) (HG.out.to hb) hx)
  have HA1 := ak (fun (B : Nat) (W : World) (x : Bool) (hb : Below w.heap.size w W) (hB : W.cell? ⟨B, 0, none⟩ = some (.int .i64 (l0.length : Int))) (hx : anyNot k l0.length l1 = some x) => any33_36 k B l0.length A1 c1 l1 x W hB (Kd.C_below HR1.out hb) (HG.out.to hb) hx)
  unfold xValid.f at H
  clear h hr0 hr1 hG0 hc0 hc1 HR0 HR1 HG
  generalize hn0 : l0.length = n0 at *
  generalize hn1 : l1.length = n1 at *
  generalize sizeB n0 = p0 at *
  generalize sizeB n1 = p1 at *
  have H1 := Lib.hid h1
  have H2 := Lib.hid h2
  clear h1 h2 hn0 hn1
  go_enter Tryd.func18, Tryd.ntmps18
  go_wp2_with (first | ((with_reducible refine gate_dst (N := 1) rfl ?_); refine bE 1 #[.slice A0 n0 c0, .slice A1 n1 c1] 25 ?_; intro gb hg w6 hbox hb; have BK := ak (hbox); replace HB := kH _ hb; clear hb hg hbox; have hcz0 : w6.cell? ⟨gb, 0, none⟩ = some (.slice A0 n0 c0) := bc BK 0; have hcz1 : w6.cell? ⟨gb, 1, none⟩ = some (.slice A1 n1 c1) := bc BK 1))
  rename_i Q' K hK9
  have key : ∀ (b3 b4 : Nat) (W1 : World), W1.heap[gb]? = some (.cells #[.slice A0 n0 c0, .slice A1 n1 c1] 25 (0, 0)) → W1.heap[b3]? = some (.cells #[.int .i64 (n0 : Int)] 3 (0, 0)) → W1.heap[b4]? = some (.cells #[.int .i64 (n1 : Int)] 3 (0, 0)) → Below w.heap.size w W1 →
      Exit.then K Q' Exit.normal { tmps := #[Value.agg #[Value.slice A0 n0 c0, Value.slice A1 n1 c1], Value.pointer (some { block := gb, off := 0 }),
          Value.bool false, Value.pointer (some { block := b3, off := 0 }),
          Value.pointer (some { block := b4, off := 0 }), Value.pointer (some { block := gb, off := 0 }),
          Value.slice A0 n0 c0, Value.int IntKind.i64 n0, Value.pointer (some { block := gb, off := 1 }),
          Value.slice A1 n1 c1, Value.int IntKind.i64 n1, undef, undef, undef, undef, undef, undef, undef, undef,
          undef, undef, undef, undef, undef, undef, undef, undef, undef, undef, undef, undef], defers := [] } W1 := by
    intro b3 b4 W1 hgb hb3 hb4 hbel
    replace BK := ak hgb
    have B3 := ak hb3
    have B4 := ak hb4
    replace HB := ak hbel
    clear hgb hb3 hb4 hbel hcz0 hcz1
    have hcz0 : W1.cell? ⟨gb, 0, none⟩ = some (.slice A0 n0 c0) := bc BK 0
    have hcz1 : W1.cell? ⟨gb, 1, none⟩ = some (.slice A1 n1 c1) := bc BK 1
    have hcz3 : W1.cell? ⟨b3, 0, none⟩ = some (.int .i64 n0) := bc B3 0
    have hcz4 : W1.cell? ⟨b4, 0, none⟩ = some (.int .i64 n1) := bc B4 0
    cases p0 with
    | false =>
      obtain rfl : r = false := by have h := H.out; simpa using h.symm
      go_wp2_with (first | (go_at_call 27; refine (H1.out _).mono ?_; rintro e w' ⟨rfl, nn, rfl⟩) | (go_at_call 27; refine (H2.out _).mono ?_; rintro e w' ⟨rfl, nn, rfl⟩))
      go_ret
      exact ⟨rfl, hbC _⟩
    | true =>
      cases p1 with
      | false =>
        obtain rfl : r = false := by have h := H.out; simpa using h.symm
        go_wp2_with (first | (go_at_call 27; refine (H1.out _).mono ?_; rintro e w' ⟨rfl, nn, rfl⟩) | (go_at_call 27; refine (H2.out _).mono ?_; rintro e w' ⟨rfl, nn, rfl⟩))
        go_ret
        exact ⟨rfl, hbC _⟩
      | true =>
        have h := H.out
        rw [if_pos rfl, if_pos rfl] at h
        obtain ⟨x, hx, h⟩ := Option.bind_eq_some_iff.mp h
        have HX := ak hx
        clear hx H
        cases x with
        | true =>
          obtain rfl : r = false := by simpa using h.symm
          clear h
          go_wp2_with (first | (go_at_call 27; refine (H1.out _).mono ?_; rintro e w' ⟨rfl, nn, rfl⟩) | (go_at_call 27; refine (H2.out _).mono ?_; rintro e w' ⟨rfl, nn, rfl⟩) | (go_at_call 33; refine (HA0.out b4 _ _ (hbC _) ((blk_cell (bkC B4) 0).trans rfl) HX.out).mono ?_; rintro e w7 ⟨rfl, hb⟩; replace BK := kB BK hb; replace B3 := kB B3 hb; replace HB := kH _ hb; clear hb; have hcy1 : w7.cell? ⟨gb, 1, none⟩ = some (.slice A1 n1 c1) := bc BK 1))
          go_ret
          exact ⟨rfl, hbC _⟩
        | false =>
          rw [if_neg (by decide)] at h
          obtain ⟨y, hy, h⟩ := Option.bind_eq_some_iff.mp h
          obtain rfl := Option.some.inj h
          have HY := ak hy
          clear hy h
          go_wp2_with (first | (go_at_call 27; refine (H1.out _).mono ?_; rintro e w' ⟨rfl, nn, rfl⟩) | (go_at_call 27; refine (H2.out _).mono ?_; rintro e w' ⟨rfl, nn, rfl⟩) | (go_at_call 33; refine (HA0.out b4 _ _ (hbC _) ((blk_cell (bkC B4) 0).trans rfl) HX.out).mono ?_; rintro e w7 ⟨rfl, hb⟩; replace BK := kB BK hb; replace B3 := kB B3 hb; replace HB := kH _ hb; clear hb; have hcy1 : w7.cell? ⟨gb, 1, none⟩ = some (.slice A1 n1 c1) := bc BK 1) | (go_at_call 33; refine (HA1.out b3 _ _ (hbC _) ((blk_cell (bkC B3) 0).trans rfl) HY.out).mono ?_; rintro e w8 ⟨rfl, hb⟩; replace HB := kH _ hb; clear hb))
          go_ret
          exact ⟨rfl, hbC _⟩
  have hlt : gb < w6.heap.size := blk_lt BK.out
  have hl0 : ∀ o o', ((w6.alloc o).alloc o').cell? ⟨gb, 0, none⟩ = some (.slice A0 n0 c0) := fun o o' => by
    rw [World.cell?_alloc_lt _ _ _ (by show gb < (w6.alloc o).heap.size; simp; omega), World.cell?_alloc_lt _ _ _ (by show gb < w6.heap.size; omega)]; exact hcz0
  have hl1 : ∀ o o', ((w6.alloc o).alloc o').cell? ⟨gb, 1, none⟩ = some (.slice A1 n1 c1) := fun o o' => by
    rw [World.cell?_alloc_lt _ _ _ (by show gb < (w6.alloc o).heap.size; simp; omega), World.cell?_alloc_lt _ _ _ (by show gb < w6.heap.size; omega)]; exact hcz1
  have hl2 : ∀ o, (w6.alloc o).cell? ⟨gb, 0, none⟩ = some (.slice A0 n0 c0) := fun o => by
    rw [World.cell?_alloc_lt _ _ _ (by show gb < w6.heap.size; omega)]; exact hcz0
  have hl3 : ∀ o, (w6.alloc o).cell? ⟨gb, 1, none⟩ = some (.slice A1 n1 c1) := fun o => by
    rw [World.cell?_alloc_lt _ _ _ (by show gb < w6.heap.size; omega)]; exact hcz1
  have hne0 : gb ≠ w6.heap.size := by omega
  have hne1 : gb ≠ w6.heap.size + 1 := by omega
  have hne2 : w6.heap.size ≠ gb := by omega
  have hne3 : w6.heap.size + 1 ≠ gb := by omega
  clear hlt
  go_region
  · exact key _ _ _ (bkC BK) (blk_drew (blk_alloc (heap_alloc_new w6 (.cells #[.int .i64 (n0 : Int)] 3 (0, 0))) _)) (blk_drew (by have h9 := heap_alloc_new (w6.alloc (.cells #[.int .i64 (n0 : Int)] 3 (0, 0))) (.cells #[.int .i64 (n1 : Int)] 3 (0, 0)); rw [World.size_alloc] at h9; exact h9)) (hbC _)
  · exact key _ _ _ (bkC BK) (blk_drew (by have h9 := heap_alloc_new (w6.alloc (.cells #[.int .i64 (n1 : Int)] 3 (0, 0))) (.cells #[.int .i64 (n0 : Int)] 3 (0, 0)); rw [World.size_alloc] at h9; exact h9)) (blk_drew (blk_alloc (heap_alloc_new w6 (.cells #[.int .i64 (n1 : Int)] 3 (0, 0))) _)) (hbC _)
end Go.Proofs.YtkieehjpnjplmaaDoor.X
