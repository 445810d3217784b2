/- The walk of Below behind its test: the parts next below, the greatest first. -/
import Derived.Test.YtefmafbbnkkpjaaE76
import Derived.Test.YtefmafbbnkkpjaaE79
import Derived.Test.YtefmafbbnkkpjaaE80
import Derived.Test.YtefmafbbnkkpjaaXf67
namespace Go.Proofs.Ytefmafbbnkkpjaa.X
open Go.Proofs.Ytefmafbbnkkpjaa.Pure Go.RowKit Go.Shelf Go.Proofs.YtefmafbbnkkpjaaW.PrintWords Go.Proofs.YtefmafbbnkkpjaaW.PrintLast Go.Proofs.YtefmafbbnkkpjaaW.PrintMore
set_option linter.unusedVariables false
set_option linter.unusedSimpArgs false

theorem slice_event {P : Program} {ops : Array Oper} {rest : List Oper} {o : Oper} {a : Act} {Q : Exit → Act → World → Prop} {W : World} (hgd : o.guard = none) {N : Tmp} (_hd : o.dst = some N) {cs : Array Value} {t : TypeId} {n : Nat}
    (hrun : (execOp a.eval o).run P W = .ok (.value (.slice (some ⟨W.heap.size, 0, none⟩) n n)) (W.alloc (.cells cs t (0, 0))))
    (h : ∀ g, g = W.heap.size → ∀ w1, w1.heap[g]? = some (.cells cs t (0, 0)) → Below W.heap.size W w1 → wpList P ops Q rest (a.put o.dst (.slice (some ⟨g, 0, none⟩) n n)) w1) : wpList P ops Q (o :: rest) a W :=
  Kd.event_run hgd hrun (h _ rfl _ (blk_new W _) (below_alloc (Below.refl _ _) _))
theorem C_one {w : World} {b : Nat} {A : Option Addr} {c : Nat} {a : List Int} (hb : w.heap[b]? = some (.cells #[.slice A a.length c] 22 (0, 0))) (hr : Kd.C (Kd.int .i64) w A a.length a) (hc : a.length ≤ c) : Kd.C (Kd.slice 3 (Kd.int .i64)) w (some ⟨b, 0, none⟩) 1 [a] := by
  refine ⟨rfl, by omega, fun _ => ⟨_, rfl, fun j p hp => ?_⟩⟩
  have hj : j = 0 := by
    have := (List.getElem?_eq_some_iff.mp hp).1
    simp at this
    exact this
  subst hj
  obtain rfl : a = p := by simpa using hp
  refine ⟨[.slice A a.length c], rfl, ⟨A, c, rfl, hc, hr⟩, fun i u hu => ?_⟩
  have hi : i = 0 := by
    have := (List.getElem?_eq_some_iff.mp hu).1
    simp at this
    exact this
  subst hi
  obtain rfl : Value.slice A a.length c = u := by simpa using hu
  rw [add_plain]
  exact (blk_cell hb 0).trans rfl
theorem cell_grownA {W w1 : World} {row : Option Nat} (hg : W.grownBy w1 row) {a : Addr} {v : Value} (h : W.cell? a = some v) (hne : some a.block ≠ row) : w1.cell? a = some v := by
  have := hg.block a.block (World.block_lt_of_cell? W _ h) hne
  unfold World.cell? at h ⊢
  rw [this]
  exact h
/-- All rows as they stand, each row's value told. -/
structure AllAt (w : World) (base gA : Nat) (all : List (List Int)) (vs : Nat → Value) : Prop where
  typ : ∃ cur, w.heap[gA]? = some (.cells cur 22 (0, 0))
  cell : ∀ i, i < all.length → w.cell? ⟨gA, i, none⟩ = some (vs i)
  row : ∀ i (h : i < all.length), Kd.R (Kd.int .i64) 3 w base (fun k => k ≠ gA) (vs i) all[i]
theorem AllAt.below {w w1 : World} {base gA : Nat} {all : List (List Int)} {vs : Nat → Value} (h : AllAt w base gA all vs) (hb : Below w.heap.size w w1) : AllAt w1 base gA all vs :=
  ⟨by obtain ⟨cur, hc⟩ := h.typ; exact ⟨cur, blk_below hc hb⟩, fun i hi => pw_cell_below hb (h.cell i hi), fun i hi => Kd.R_below (h.row i hi) hb⟩
theorem AllAt.grown {w w1 : World} {base gA : Nat} {all : List (List Int)} {vs : Nat → Value} (h : AllAt w base gA all vs) {v : Value} (hg : w.grownBy w1 v.ownBlock) (hne : v.ownBlock ≠ some gA) (ht : ∀ k, v.ownBlock = some k → ∃ cells, w.heap[k]? = some (.cells cells 22 (0, 0))) : AllAt w1 base gA all vs :=
  ⟨by obtain ⟨cur, hc⟩ := h.typ; exact ⟨cur, blk_grown hc hg (fun e => hne e.symm)⟩, fun i hi => cell_grownA hg (h.cell i hi) (fun e => hne e.symm), fun i hi => Kd.R_over' (h.row i hi) ht (by decide) hg⟩
theorem AllAt.of {w : World} {base gA cap : Nat} {all : List (List Int)} (h : Kd.R (Kd.slice 3 (Kd.int .i64)) 22 w base (fun _ => True) (.slice (some ⟨gA, 0, none⟩) all.length cap) all) : ∃ vs, AllAt w base gA all vs := by
  obtain ⟨hok, inner, hown, hrows⟩ := h
  have hcells := hown.cells (g := gA) (by simp [Value.ownBlock])
  have hl : inner.length = all.length := hown.1.trans (Nat.mul_one _)
  obtain ⟨cur, hcur⟩ := own_typed hown gA (by simp [Value.ownBlock])
  refine ⟨fun i => inner.getD i (.slice none 0 0), ⟨cur, hcur⟩, fun i hi => ?_, fun i hi => ?_⟩
  · have hi2 : i < inner.length := by omega
    have := hcells i _ (List.getElem?_eq_getElem hi2)
    rw [add_plain] at this
    rw [this, List.getD_eq_getElem?_getD, List.getElem?_eq_getElem hi2]
    rfl
  · have hi2 : i < inner.length := by omega
    obtain ⟨v, e, hR⟩ := hrows.2 i all[i] (List.getElem?_eq_getElem hi)
    rw [show (Kd.slice 3 (Kd.int .i64)).sz = 1 from rfl, Nat.mul_one, List.drop_eq_getElem_cons hi2] at e
    simp only [List.take_succ_cons, List.take_zero] at e
    have e2 : inner.getD i (.slice none 0 0) = v := by
      rw [List.getD_eq_getElem?_getD, List.getElem?_eq_getElem hi2]
      exact (List.cons.inj e).1
    show Kd.R (Kd.int .i64) 3 w base (fun k => k ≠ gA) (inner.getD i (.slice none 0 0)) all[i]
    rw [e2]
    exact Kd.R_mono hR (fun k hk e => hk.2 (by rw [e]; rfl))
theorem AllAt.reads {w : World} {base gA : Nat} {all : List (List Int)} {vs : Nat → Value} (h : AllAt w base gA all vs) (hm : all.length ≤ 100000) : Kd.C (Kd.slice 3 (Kd.int .i64)) w (some ⟨gA, 0, none⟩) all.length all := by
  refine ⟨rfl, by omega, fun _ => ⟨_, rfl, fun j p hp => ?_⟩⟩
  obtain ⟨hj, rfl⟩ := List.getElem?_eq_some_iff.mp hp
  obtain ⟨A, c, e, hle, hC⟩ := Kd.R_reads (h.row j hj)
  refine ⟨[vs j], rfl, ⟨A, c, by rw [e], hle, hC⟩, fun i u hu => ?_⟩
  have hi : i = 0 := by
    have := (List.getElem?_eq_some_iff.mp hu).1
    simp at this
    exact this
  subst hi
  obtain rfl : vs j = u := by simpa using hu
  rw [add_plain]
  have := h.cell j hj
  simpa only [show (Kd.slice 3 (Kd.int .i64)).sz = 1 from rfl, Nat.mul_one, Nat.add_zero, Nat.zero_add] using this
theorem row_ne {w : World} {base k : Nat} {ok : Nat → Prop} {v : Value} {xs : List (List Int)} (h : Kd.R (Kd.slice 3 (Kd.int .i64)) 22 w base ok v xs) (hk : ∃ q, q ∈ 3 :: (Kd.int .i64).E ∧ ∃ cells, w.heap[k]? = some (.cells cells q (0, 0))) : some k ≠ v.ownBlock := by
  intro e
  obtain ⟨q, hq, cells, hc⟩ := hk
  obtain ⟨cells2, hc2⟩ := own_typed (Kd.R_own h).choose_spec k e.symm
  rw [hc] at hc2
  have : q = 22 := by injection hc2 with h1; injection h1
  subst this
  exact absurd hq (by decide)
def outP (all : List (List Int)) (p : List Int → List Int → Bool) (j : Nat) : List (List Int) := (all.take j).filter fun b => !(all.any (p b))
theorem outP_succ (all : List (List Int)) (p : List Int → List Int → Bool) (j : Nat) (h : j < all.length) : outP all p (j + 1) = outP all p j ++ if all.any (p all[j]) = true then [] else [all[j]] := by
  unfold outP
  rw [List.take_succ_eq_append_getElem h, List.filter_append]
  congr 1
  cases hq : all.any (p all[j]) <;> simp [hq]
theorem outP_len (all : List (List Int)) (p : List Int → List Int → Bool) (j : Nat) : (outP all p j).length ≤ all.length := by
  unfold outP
  have := List.length_filter_le (fun b => !(all.any (p b))) (all.take j)
  rw [List.length_take] at this
  omega
set_option maxHeartbeats 8000000 in
set_option maxRecDepth 100000 in
theorem below_calls (k : Nat) (A : Option Addr) (c : Nat) (a : List Int) (p : List Int → List Int → Bool) (S : List (List Int)) (w : World) (hl : a.length ≤ 12) (h1 : ∀ x ∈ a, 1 ≤ x ∧ x ≤ 12) (hr : Kd.C (Kd.int .i64) w A a.length a) (hc : a.length ≤ c)
    (hP : shares_isParts.f k [a] = some true) (hm : (lowU a).length ≤ 1000) (hf : ∀ b, b ∈ lowU a → ∀ d, d ∈ lowU a → shares_Below_1.f k d b = some (p b d)) (hsh : ∀ b, b ∈ lowU a → b.length ≤ 20)
    (h12 : (outP (lowU a) p (lowU a).length).length ≤ 12) (hS : (outP (lowU a) p (lowU a).length).Perm S) (hSs : S.Pairwise (fun x y => 0 < cmpL x y)) :
    Calls Try.prog 43 #[.slice A a.length c] w fun e w' => ∃ v, e = .returned (.tuple #[v, .int .i64 0]) ∧ Kd.R (Kd.slice 3 (Kd.int .i64)) 22 w' w.heap.size (fun _ => True) v S ∧ Below w.heap.size w w' := by
  have HR := Aside0.mk hr
  have HLW := Aside0.mk (fun (W : World) (hb : Below w.heap.size w W) => lower_calls A c a W hl h1 (Kd.C_below hr hb) hc)
  have HIP := Aside0.mk (fun (W : World) (b : Nat) (hb : Below w.heap.size w W) (hblk : W.heap[b]? = some (.cells #[.slice A a.length c] 22 (0, 0))) => show Calls Try.prog 67 #[.slice (some ⟨b, 0, none⟩) 1 1] W fun e w' => e = .returned (.bool true) ∧ Below W.heap.size W w' from shares_isParts.calls k (some ⟨b, 0, none⟩) 1 [a] true W (C_one hblk (Kd.C_below hr hb) hc) (Nat.le_refl _) hP)
  have HF := Aside0.mk hf
  have HSH := Aside0.mk hsh
  have H12 := Aside0.mk h12
  have HS := Aside0.mk hS
  have HSS := Aside0.mk hSs
  clear hr h1 hP hf hsh h12 hS hSs
  generalize lowU a = all at *
  go_enter Try.func43, Try.ntmps43
  go_wp2_with (first | ((with_reducible refine gate_dst (N := 10) rfl ?_); refine slice_event ?hg28 (N := 10) ?hd28 (cs := #[.slice A a.length c]) (t := 22) (n := 1) ?hr28 ?_; (case hd28 => rfl); (case hg28 => rfl); (case hr28 => first | (go_simp; done) | (go_simp; rfl)); intro gc hgc w1 hblk hb; have HBK := Aside0.mk hblk; have HB1 := Aside0.mk hb; clear hblk hb hgc) | (go_at_call 67; (with_reducible refine (HIP.out _ _ HB1.out HBK.out).mono ?_); rintro e w2 ⟨rfl, hb⟩; have HB2 := Aside0.mk (below_step HB1.out hb); clear hb) | (go_at_call 76; (with_reducible refine (HLW.out _ HB2.out).mono ?_); rintro e w3 ⟨v3, rfl, ho, hb⟩; have HO3 := Aside0.mk (Kd.R_lower ho (below_size HB2.out)); have HB3 := Aside0.mk (below_step HB2.out hb); obtain ⟨A3, c3, rfl⟩ := Kd.R_slice ho; clear ho hb))
  clear HB1 HB2 HBK HIP HLW
  have hmf : ∀ (fn : Fn) (first cap : Array Value) (w : World), (Instr.makeFunc fn first cap).run Try.prog w = .ok (.func fn first cap) w := fun _ _ _ _ => rfl
  by_cases hn : all.length = 0
  · obtain rfl : all = [] := List.length_eq_zero_iff.mp hn
    have hS0 : S = [] := by
      have := HS.out
      simp [outP] at this
      exact this
    subst hS0
    have hsort := fun W => AnyF.slices_SortFunc_none Try.vsortR0 none 0 (.func (.func 81) #[] #[]) W
    have HST := Lib.hid hsort
    clear hsort HF HSH H12 HS HSS
    go_loopw [5, 17] (fun v5 v17 wr => v5 = .slice none 0 0 ∧ v17 = .int .i64 0 ∧ Aside0 (Below w.heap.size w wr)) (fun _ _ _ => 0)
    case atStart => exact ⟨rfl, rfl, HB3⟩
    case round =>
      clear HB3 HO3
      obtain ⟨rfl, rfl, HB⟩ := hrel
      go_wp2_with (go_at_call 80; refine (HST.out _).mono ?_; rintro e w' ⟨rfl, rfl⟩)
      go_ret2
      exact ⟨_, rfl, Kd.R_nil _ _ _ _ _, HB.out⟩
  · obtain ⟨gA, cA, e3, hg0, hg1, cells, hgt⟩ := Kd.R_form HO3.out (by omega)
    injection e3 with e31 _ e32
    subst e31
    subst e32
    obtain ⟨vs, hall⟩ := AllAt.of HO3.out
    have HALL := Aside0.mk hall
    have HGA := Aside0.mk hg0
    clear hall hg0 hg1 hgt HO3
    go_loopw [5, 17] (fun v5 v17 wr => ∃ j : Nat, ∃ A5 c5, v5 = .slice A5 (outP all p j).length c5 ∧ j ≤ all.length ∧ v17 = .int .i64 j ∧ Aside0 (Kd.R (Kd.slice 3 (Kd.int .i64)) 22 wr w.heap.size (fun k => k ≠ gA) v5 (outP all p j)) ∧ Aside0 (AllAt wr w.heap.size gA all vs) ∧ Aside0 (Below w.heap.size w wr)) (fun _ v17 _ => all.length - (intOf v17).toNat)
    case atStart => exact ⟨0, none, 0, rfl, by omega, rfl, ⟨show Kd.R (Kd.slice 3 (Kd.int .i64)) 22 w3 w.heap.size (fun k => k ≠ gA) (.slice none 0 0) [] from Kd.R_nil _ _ _ _ _⟩, HALL, HB3⟩
    case round =>
      clear HALL HB3
      obtain ⟨j, A5, c5, rfl, hj, rfl, HO, HALL, HB⟩ := hrel
      by_cases hlt : j < all.length
      · have hjd : decide ((j : Int) < (all.length : Int)) = true := decide_eq_true (by omega)
        have hjd2 : decide (j < all.length) = true := decide_eq_true hlt
        have hsu := Aside0.mk (outP_succ all p j hlt)
        have hol := Aside0.mk (outP_len all p j)
        have hcell := HALL.out.cell j hlt
        have hrow := HALL.out.row j hlt
        obtain ⟨Aj, cj, ej, hle, hCj⟩ := Kd.R_reads hrow
        rw [ej] at hcell hrow
        have HFB := Aside0.mk (HF.out all[j] (List.getElem_mem hlt))
        have HROW := Aside0.mk hrow
        have HCJ := Aside0.mk hCj
        clear hrow hCj ej
        generalize all[j] = b at *
        generalize outP all p j = out at *
        have hcont := fun (W5 : World) (gb : Nat) (ha : AllAt W5 w.heap.size gA all vs) (hx : W5.cell? ⟨gb, 0, none⟩ = some (.slice Aj b.length cj)) (hc5 : Kd.C (Kd.int .i64) W5 Aj b.length b) =>
          cont79_calls gb (p b) (some ⟨gA, 0, none⟩) c3 all W5 (ha.reads (by omega)) (by omega) (fun row hrow A' c' W' hb hC hle' => between_calls k A' c' row Aj cj b gb (p b row) W' (pw_cell_below hb hx) hC hle' (Kd.C_below hc5 hb) hle (HFB.out row hrow))
        cases hq : all.any (p b) with
        | true =>
          rw [hq] at hcont
          rw [hq, if_pos rfl, List.append_nil] at hsu
          have HCT := Aside0.mk hcont
          clear hcont hq
          go_wp2_with (first | ((with_reducible refine gate_dst (N := 7) rfl ?_); refine box_event ?hg7 (N := 7) ?hd7 (cs := #[.slice none 0 0]) (t := 22) ?hr7 ?_; (case hd7 => rfl); (case hg7 => rfl); (case hr7 => first | (go_simp; done) | (go_simp; rfl)); intro gb hgb w4 hbox hb; have HBX := Aside0.mk hbox; have HB4 := Aside0.mk hb; have HGB := Aside0.mk hgb; have hz0 : w4.cell? ⟨gb, 0, none⟩ = some (.slice none 0 0) := (blk_cell hbox 0).trans rfl; have hf0 := blk_frozen hbox 0; clear hbox hb hgb) | ((with_reducible refine gate_store (t := 22) (p := 7) rfl ?_); refine store_event (t := 22) (p := 7) (v := ?vo) (w1 := (w4.setCell ⟨gb, 0, none⟩ (.slice Aj b.length cj))) ?hg ?ho ?hn ?hr ?_; (case ho => rfl); (case hg => rfl); (case hn => rfl); (case hr => first | (go_simp; done) | (go_simp; rfl)); intro w5 hw; have hX5 : w5.heap[gb]? = some (.cells #[.slice Aj b.length cj] 22 (0, 0)) := (by rw [hw]; exact blk_put HBX.out 0 _ rfl); have hB5 : Below wr.heap.size wr w5 := (by rw [hw]; exact below_set HB4.out (Nat.le_of_eq HGB.out.symm)); have HX5 := Aside0.mk hX5; have HO5 := Aside0.mk (Kd.R_below HO.out hB5); have HALL5 := Aside0.mk (HALL.out.below hB5); have HW5 := Aside0.mk (below_step HB.out hB5); have HROW5 := Aside0.mk (Kd.R_below HROW.out hB5); have HCJ5 := Aside0.mk (Kd.C_below HCJ.out hB5); clear hw hX5 hB5 hz0 hf0 hcell) | (go_at_call 79; (with_reducible refine (HCT.out _ gb HALL5.out ((blk_cell HX5.out 0).trans rfl) HCJ5.out).mono ?_); rintro e w6 ⟨rfl, hb6⟩; have HX6 := Aside0.mk (blk_below HX5.out hb6); have HO6 := Aside0.mk (Kd.R_below HO5.out hb6); have HALL6 := Aside0.mk (HALL5.out.below hb6); have HW6 := Aside0.mk (below_step HW5.out hb6); have HROW6 := Aside0.mk (Kd.R_below HROW5.out hb6); have hx6 : w6.cell? ⟨gb, 0, none⟩ = some (.slice Aj b.length cj) := (blk_cell HX6.out 0).trans rfl; clear hb6))
          go_roundw
          case rel => exact ⟨j + 1, A5, c5, by rw [hsu.out], by omega, by go_num, ⟨by rw [hsu.out]; exact HO6.out⟩, HALL6, HW6⟩
          case measure => simp [intOf]; omega
        | false =>
          rw [hq] at hcont
          rw [hq, if_neg (by decide)] at hsu
          have HCT := Aside0.mk hcont
          clear hcont hq
          go_wp2_with (first | ((with_reducible refine gate_dst (N := 7) rfl ?_); refine box_event ?hg7 (N := 7) ?hd7 (cs := #[.slice none 0 0]) (t := 22) ?hr7 ?_; (case hd7 => rfl); (case hg7 => rfl); (case hr7 => first | (go_simp; done) | (go_simp; rfl)); intro gb hgb w4 hbox hb; have HBX := Aside0.mk hbox; have HB4 := Aside0.mk hb; have HGB := Aside0.mk hgb; have hz0 : w4.cell? ⟨gb, 0, none⟩ = some (.slice none 0 0) := (blk_cell hbox 0).trans rfl; have hf0 := blk_frozen hbox 0; clear hbox hb hgb) | ((with_reducible refine gate_store (t := 22) (p := 7) rfl ?_); refine store_event (t := 22) (p := 7) (v := ?vo) (w1 := (w4.setCell ⟨gb, 0, none⟩ (.slice Aj b.length cj))) ?hg ?ho ?hn ?hr ?_; (case ho => rfl); (case hg => rfl); (case hn => rfl); (case hr => first | (go_simp; done) | (go_simp; rfl)); intro w5 hw; have hX5 : w5.heap[gb]? = some (.cells #[.slice Aj b.length cj] 22 (0, 0)) := (by rw [hw]; exact blk_put HBX.out 0 _ rfl); have hB5 : Below wr.heap.size wr w5 := (by rw [hw]; exact below_set HB4.out (Nat.le_of_eq HGB.out.symm)); have HX5 := Aside0.mk hX5; have HO5 := Aside0.mk (Kd.R_below HO.out hB5); have HALL5 := Aside0.mk (HALL.out.below hB5); have HW5 := Aside0.mk (below_step HB.out hB5); have HROW5 := Aside0.mk (Kd.R_below HROW.out hB5); have HCJ5 := Aside0.mk (Kd.C_below HCJ.out hB5); clear hw hX5 hB5 hz0 hf0 hcell) | (go_at_call 79; (with_reducible refine (HCT.out _ gb HALL5.out ((blk_cell HX5.out 0).trans rfl) HCJ5.out).mono ?_); rintro e w6 ⟨rfl, hb6⟩; have HX6 := Aside0.mk (blk_below HX5.out hb6); have HO6 := Aside0.mk (Kd.R_below HO5.out hb6); have HALL6 := Aside0.mk (HALL5.out.below hb6); have HW6 := Aside0.mk (below_step HW5.out hb6); have HROW6 := Aside0.mk (Kd.R_below HROW5.out hb6); have hx6 : w6.cell? ⟨gb, 0, none⟩ = some (.slice Aj b.length cj) := (blk_cell HX6.out 0).trans rfl; clear hb6) | ((with_reducible refine gate_builtin (b := .append) (xs := #[.tmp 26, .tmp 28]) rfl ?_); at_builtin; refine Kd.R_append (Kd.slice 3 (Kd.int .i64)) (w0 := w) w.heap.size rfl (.tmp 26) (.tmp 28) 48 22 (.slice none 0 0) 24 rfl Try.underlying48 info22 rfl (by decide) (by omega) (.slice A5 out.length c5) out b [.slice Aj b.length cj] (fun k => k ≠ gA) (fun k => k ≠ gA ∧ some k ≠ (Value.slice A5 out.length c5).ownBlock) rfl rfl ?aP (fun k hk => hk) ?aF ?aO ?aB ?aS ?aL ?_; (case aP => exact ⟨_, rfl, Kd.R_mono (Kd.R_bound HROW6.out) (fun k hk => ⟨hk.1, row_ne HO6.out hk.2.2.2⟩)⟩); (case aB => exact HW6.out); (case aF => exact (fun k hk e => by obtain ⟨cur, hcur⟩ := HALL6.out.typ; have := blk_lt hcur; omega)); (case aO => exact HO6.out); (case aS => exact (below_size HW6.out)); (case aL => have := hol.out; omega); intro v7 w7 ho hb hg hat; obtain ⟨A7, c7, rfl⟩ := Kd.R_slice ho; have HO7 := Aside0.mk ho; have HALL7 := Aside0.mk (HALL6.out.grown hg (fun e => HO6.out.1 _ e rfl) (fun k hk => own_typed (Kd.R_own HO6.out).choose_spec k hk)); have HB7 := Aside0.mk hb; clear ho hb hg hat))
          go_roundw
          case rel => exact ⟨j + 1, A7, c7, by rw [hsu.out, List.length_append]; rfl, by omega, by go_num, ⟨by rw [hsu.out]; have h9 := HO7.out; rw [List.length_append] at h9; exact h9⟩, HALL7, HB7⟩
          case measure => simp [intOf]; omega
      · have hjd : decide ((j : Int) < (all.length : Int)) = false := decide_eq_false (by omega)
        have hjd2 : decide (j < all.length) = false := decide_eq_false hlt
        obtain rfl : j = all.length := by omega
        by_cases ho0 : (outP all p all.length).length = 0
        · have hS0 : S = [] := by
            have h9 := HS.out
            rw [List.length_eq_zero_iff.mp ho0] at h9
            exact List.nil_perm.mp h9
          subst hS0
          rw [ho0] at HO
          have hsort := fun W => AnyF.slices_SortFunc_none Try.vsortR0 A5 c5 (.func (.func 81) #[] #[]) W
          have HST := Lib.hid hsort
          have HO0 := Aside0.mk (show Kd.R (Kd.slice 3 (Kd.int .i64)) 22 wr w.heap.size (fun _ => True) (.slice A5 0 c5) [] from by have h9 := HO.out; rw [List.length_eq_zero_iff.mp ho0] at h9; exact Kd.R_mono h9 (fun _ _ => trivial))
          rw [ho0]
          clear hsort HF HSH H12 HS HSS HO
          go_wp2_with (go_at_call 80; refine (HST.out _).mono ?_; rintro e w' ⟨rfl, rfl⟩)
          go_ret2
          exact ⟨_, rfl, HO0.out, HB.out⟩
        · obtain ⟨g5, cap5, e5, hg5, _, _, _⟩ := Kd.R_form HO.out (by omega)
          injection e5 with e51 _ e52
          subst e51
          subst e52
          have hsort := sort80_calls w wr g5 c5 (outP all p all.length) H12.out (fun r hr => HSH.out r (by
            unfold outP at hr
            exact List.mem_of_mem_take (List.mem_filter.mp hr).1)) HB.out (Kd.R_mono HO.out (fun _ _ => trivial)) hg5
          have HST := Lib.hid hsort
          clear hsort HF HSH H12
          generalize outP all p all.length = out at *
          go_wp2_with (go_at_call 80; refine (HST.out).mono ?_; rintro e w' ⟨rfl, L', hp1, hp2, hR, hb⟩; have HE := Aside0.mk (fall_unique (hp1.trans HS.out) hp2 HSS.out); have HR9 := Aside0.mk hR; have HB9 := Aside0.mk hb; clear hp1 hp2 hR hb)
          go_ret2
          exact ⟨_, rfl, by rw [← HE.out]; exact HR9.out, HB9.out⟩
end Go.Proofs.Ytefmafbbnkkpjaa.X
