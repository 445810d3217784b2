/- The walk of order: the indices of numbers, that of the greatest first, by slices.SortStableFunc at twelve numbers or fewer, with a closure. -/
import Derived.Test.YtefmafbbnkkpjaaK
import Derived.Test.YtefmafbbnkkpjaaX0
import Derived.Test.YtefmafbbnkkpjaaL2
import Derived.Sort.OwnSortedInts
import Derived.Lib.Hide
import Derived.Shelf.Abstract
namespace Go.Proofs.Ytefmafbbnkkpjaa.X
open Go Go.Sort Go.RowKit Go.Shelf Go.Proofs.YtefmafbbnkkpjaaW.PrintWords Go.Proofs.YtefmafbbnkkpjaaW.PrintLast Go.Proofs.YtefmafbbnkkpjaaW.PrintMore
set_option linter.unusedVariables false
set_option linter.unusedSimpArgs false

namespace Ord
section
variable {enc : Nat → Value}
theorem heap_srt {w : World} {g n : Nat} {os : Array Obj} {cur : Array Value} {e : TypeId} {fr : Nat × Nat} (d : Array Nat) (hb : w.heap[g]? = some (.cells cur e fr)) :
    (grow (putRow enc (Sort.ahead w n) g 0 d) os).heap[g]? = some (.cells (putCells enc 0 d cur) e fr) := by
  have hg : g < w.heap.size := (Array.getElem?_eq_some_iff.1 hb).1
  rw [heap_grow_old _ _ (by simpa using hg)]
  simp [putRow, mapBlock, Sort.ahead, Array.getElem?_modify, hb, onCells]
theorem grown_srt {w : World} {g n : Nat} {os : Array Obj} (d : Array Nat) : w.grownBy (grow (putRow enc (Sort.ahead w n) g 0 d) os) (some g) := by
  refine ⟨rfl, rfl, rfl, by simp, fun k hk hne => ?_⟩
  rw [heap_grow_old _ _ (by simpa using hk)]
  have : g ≠ k := fun e => hne (by rw [e])
  simp [putRow, mapBlock, Sort.ahead, Array.getElem?_modify, this]
theorem take_srt (cur : Array Value) (ts : List Nat) (h : ts.length ≤ cur.size) : (putCells enc 0 ts.toArray cur).toList.take ts.length = ts.map enc := by
  apply List.ext_getElem?
  intro j
  by_cases hj : j < ts.length
  · rw [List.getElem?_take_of_lt hj, Array.getElem?_toList]
    simp [putCells, hj, show j < cur.size by omega]
  · rw [List.getElem?_take_eq_none (by omega), List.getElem?_eq_none (by simp; omega)]
theorem owns_srt {w : World} {base g cap n m : Nat} {e : TypeId} {os : Array Obj} {cur : Array Value} {ts : List Nat} (hl : ts.length = m) (hbase : base ≤ g) (hb : w.heap[g]? = some (.cells cur e (0, 0)))
    (h1 : m ≤ cap) (h2 : cap ≤ maxLen) (h3 : cur.size = cap * 1) :
    (grow (putRow enc (Sort.ahead w n) g 0 ts.toArray) os).ownsRow base e 1 (.slice (some ⟨g, 0, none⟩) m cap) m (ts.map enc) :=
  ⟨by simp [hl], .inr ⟨g, cap, _, rfl, hbase, heap_srt _ hb, h1, h2, by simp [putCells, h3], by rw [Nat.mul_one, ← hl]; exact take_srt cur ts (by omega)⟩⟩
end
/-- what the closure tells of two indices -/
def cf (l : List Int) (x y : Nat) : Int := wrap64 (rd l ((y % l.length : Nat) : Int) - rd l ((x % l.length : Nat) : Int))
def en (l : List Int) (i : Nat) : Value := .int .i64 ((i % l.length : Nat) : Int)
/-- the closure -/
theorem order1_calls (l : List Int) (i j : Int) (B : Nat) (A : Option Addr) (c : Nat) (w : World) (hB : w.cell? ⟨B, 0, none⟩ = some (.slice A l.length c)) (hC : Kd.C (Kd.int .i64) w A l.length l) (hi0 : 0 ≤ i) (hi : i < l.length) (hj0 : 0 ≤ j) (hj : j < l.length) :
    Calls Try.prog 112 #[.int .i64 i, .int .i64 j, .pointer (some ⟨B, 0, none⟩)] w fun e w' => e = .returned (.int .i64 (wrap64 (rd l j - rd l i))) ∧ ∃ q, w' = w.drewN q := by
  obtain ⟨ad, e1, h1⟩ := Kd.at_int hC i hi0 hi
  obtain ⟨ad2, e2, h2⟩ := Kd.at_int hC j hj0 hj
  subst e1
  obtain rfl : ad = ad2 := Option.some.inj e2
  clear hC
  go_enter Try.func112, Try.ntmps112
  go_wp2
  go_quiet (fail)
  go_wp2
  go_ret
  exact ⟨rfl, _, rfl⟩
/-- the insertion sort, by the closure -/
theorem ins_calls (l : List Int) (g cap B : Nat) (d : Array Nat) (w : World) (hd : d.size = l.length) (h12 : l.length ≤ 12)
    (hcmp : CmpReads Try.prog 112 #[.pointer (some ⟨B, 0, none⟩)] (en l) (cf l) g 0 d.size w) (hH : Holds (en l) w g 0 d) :
    Calls Try.prog 145 #[.slice (some ⟨g, 0, none⟩) l.length cap, .int .i64 0, .int .i64 l.length, .func (.func 112) #[] #[.pointer (some ⟨B, 0, none⟩)]] w fun e w' =>
      e = .returned (.tuple #[]) ∧ ∃ n, w' = (putRow (en l) w g 0 (Sort.insertionSort (ltOf (cf l)) d 0 l.length)).drewN n := by
  have h := Any.insertionSortCmpFunc_one (P := Try.prog) (ρ := Try.vsort_ren) { Try.vsort with } (en l) (fun _ => rfl) (cf l) 112 #[.pointer (some ⟨B, 0, none⟩)] g 0 cap 0 d.size d w (enters_of Try.func112 (by kernel_rfl) rfl) hcmp hH (Nat.zero_le _) (Nat.le_refl _) (by omega)
  rw [hd] at h
  exact h
theorem stable_calls (l : List Int) (g cap B : Nat) (d : Array Nat) (w : World) (hd : d.size = l.length) (h12 : l.length ≤ 12)
    (hcmp : CmpReads Try.prog 112 #[.pointer (some ⟨B, 0, none⟩)] (en l) (cf l) g 0 d.size w) (hH : Holds (en l) w g 0 d) :
    Calls Try.prog 134 #[.slice (some ⟨g, 0, none⟩) l.length cap, .int .i64 l.length, .func (.func 112) #[] #[.pointer (some ⟨B, 0, none⟩)]] w fun e w' =>
      e = .returned (.tuple #[]) ∧ ∃ n, w' = (putRow (en l) w g 0 (Sort.insertionSort (ltOf (cf l)) d 0 l.length)).drewN n := by
  have hi := Lib.hid (ins_calls l g cap B d w hd h12 hcmp hH)
  clear hcmp hH
  have c1 : decide ((20 : Int) ≤ (l.length : Int)) = false := decide_eq_false (by omega)
  have c2 : decide ((20 : Int) < (l.length : Int)) = false := decide_eq_false (by omega)
  go_enter Try.func134, Try.ntmps134
  go_wp2
  refine wp_loop_rounds 1 ?_
  rw [rounds_succ]
  go_wp2_with (go_at_call 145; refine (hi.out).mono ?_; rintro e w' ⟨rfl, n, rfl⟩)
  refine wp_loop_rounds 1 ?_
  rw [rounds_succ]
  go_wp2
  go_end0
  exact ⟨rfl, n, rfl⟩
theorem sort_calls (l : List Int) (g cap B : Nat) (d : Array Nat) (w : World) (hd : d.size = l.length) (h12 : l.length ≤ 12)
    (hcmp : CmpReads Try.prog 112 #[.pointer (some ⟨B, 0, none⟩)] (en l) (cf l) g 0 d.size w) (hH : Holds (en l) w g 0 d) :
    Calls Try.prog 111 #[.slice (some ⟨g, 0, none⟩) l.length cap, .func (.func 112) #[] #[.pointer (some ⟨B, 0, none⟩)]] w fun e w' =>
      e = .returned (.tuple #[]) ∧ ∃ n, w' = (putRow (en l) w g 0 (Sort.insertionSort (ltOf (cf l)) d 0 l.length)).drewN n := by
  have hi := Lib.hid (stable_calls l g cap B d w hd h12 hcmp hH)
  clear hcmp hH
  go_enter Try.func111, Try.ntmps111
  go_wp2_with (go_at_call 134; refine (hi.out).mono ?_; rintro e w' ⟨rfl, n, rfl⟩)
  go_end0
  exact ⟨rfl, n, rfl⟩
/-- the indices, that of the greatest first -/
def srt (l : List Int) : List Nat := (Sort.insertionSort (ltOf (cf l)) (List.range l.length).toArray 0 l.length).toList
end Ord
def orderF (l : List Int) : List Int := (Ord.srt l).map fun i => ((i % l.length : Nat) : Int)
namespace Ord
theorem rd_bd {l : List Int} (h1 : 1 ≤ l.length) (hb : ∀ x ∈ l, 0 ≤ x ∧ x ≤ 1000) (i : Nat) : 0 ≤ rd l ((i % l.length : Nat) : Int) ∧ rd l ((i % l.length : Nat) : Int) ≤ 1000 := by
  have h := Nat.mod_lt i (show 0 < l.length by omega)
  generalize i % l.length = q at *
  have e : rd l (q : Int) = l[q] := by simp [rd, List.getD_eq_getElem?_getD, List.getElem?_eq_getElem h]
  rw [e]
  exact hb _ (List.getElem_mem h)
theorem cf_lt {l : List Int} (h1 : 1 ≤ l.length) (hb : ∀ x ∈ l, 0 ≤ x ∧ x ≤ 1000) (x y : Nat) : ltOf (cf l) x y = decide (rd l ((y % l.length : Nat) : Int) < rd l ((x % l.length : Nat) : Int)) := by
  have hx := rd_bd h1 hb x
  have hy := rd_bd h1 hb y
  unfold ltOf cf
  have e : wrap64 (rd l ((y % l.length : Nat) : Int) - rd l ((x % l.length : Nat) : Int)) = rd l ((y % l.length : Nat) : Int) - rd l ((x % l.length : Nat) : Int) := by unfold wrap64; omega
  rw [e]
  exact decide_eq_decide.mpr (by omega)
theorem cf_swo {l : List Int} (h1 : 1 ≤ l.length) (hb : ∀ x ∈ l, 0 ≤ x ∧ x ≤ 1000) : SWO (ltOf (cf l)) where
  irrefl := fun x => by rw [cf_lt h1 hb]; exact decide_eq_false (by omega)
  trans := fun x y z h h2 => by
    rw [cf_lt h1 hb] at h h2 ⊢
    have := of_decide_eq_true h
    have := of_decide_eq_true h2
    exact decide_eq_true (by omega)
  ntrans := fun x y z h h2 => by
    rw [cf_lt h1 hb] at h h2 ⊢
    have := of_decide_eq_false h
    have := of_decide_eq_false h2
    exact decide_eq_false (by omega)
theorem srt_spec {l : List Int} (h1 : 1 ≤ l.length) (hb : ∀ x ∈ l, 0 ≤ x ∧ x ≤ 1000) : (srt l).Perm (List.range l.length) ∧ (srt l).Pairwise fun (x y : Nat) => rd l (y : Int) ≤ rd l (x : Int) := by
  have h := insertionSort_holds (lt := ltOf (cf l)) (cf_swo h1 hb) (List.range l.length).toArray 0 l.length (Nat.zero_le _) (by simp)
  obtain ⟨⟨hsz, _, hpm⟩, hso⟩ := h
  have hp : (srt l).Perm (List.range l.length) := by
    unfold srt
    generalize insertionSort (ltOf (cf l)) (List.range l.length).toArray 0 l.length = d' at *
    have hds : d'.size = l.length := by simpa using hsz
    have a1 : d'.extract 0 l.length = d' := by rw [← hds]; simp
    have a2 : (List.range l.length).toArray.extract 0 l.length = (List.range l.length).toArray := by simp
    rw [a1, a2] at hpm
    simpa using hpm
  refine ⟨hp, ?_⟩
  have hmem : ∀ x ∈ srt l, x % l.length = x := fun x hx => Nat.mod_eq_of_lt (List.mem_range.mp (hp.subset hx))
  rw [List.pairwise_iff_getElem]
  intro i j hi hj hij
  have hm1 := hmem _ (List.getElem_mem hi)
  have hm2 := hmem _ (List.getElem_mem hj)
  unfold srt at *
  generalize insertionSort (ltOf (cf l)) (List.range l.length).toArray 0 l.length = d' at *
  have hds : d'.size = l.length := by simpa using hsz
  simp only [Array.length_toList] at hi hj
  have h := hso i j (by omega) hij (by omega)
  rw [cf_lt h1 hb] at h
  have h := of_decide_eq_false h
  simp only [Array.getElem_toList] at hm1 hm2 ⊢
  rw [getElem!_pos d' i hi, getElem!_pos d' j hj, hm1, hm2] at h
  omega
/-- the sort of the indices -/
theorem sorted (l : List Int) (h1 : 1 ≤ l.length) (h12 : l.length ≤ 12) (hbd : ∀ x ∈ l, 0 ≤ x ∧ x ≤ 1000) (A : Option Addr) (c g cap B : Nat) (w1 W : World) (hB : w1.cell? ⟨B, 0, none⟩ = some (.slice A l.length c)) (hBs : B < w1.heap.size) (hC : Kd.C (Kd.int .i64) w1 A l.length l) (hb : Below w1.heap.size w1 W)
    (ho : Kd.R (Kd.int .i64) 3 W w1.heap.size (fun _ => True) (.slice (some ⟨g, 0, none⟩) l.length cap) ((List.range l.length).map fun (i : Nat) => (i : Int))) :
    Calls Try.prog 111 #[.slice (some ⟨g, 0, none⟩) l.length cap, .func (.func 112) #[] #[.pointer (some ⟨B, 0, none⟩)]] W fun e w' =>
      e = .returned (.tuple #[]) ∧ Kd.R (Kd.int .i64) 3 w' w1.heap.size (fun _ => True) (.slice (some ⟨g, 0, none⟩) l.length cap) (orderF l) ∧ Below w1.heap.size w1 w' := by
  have hown := Kd.own_of_R ho
  have hcells := hown.cells (g := g) (by simp [Value.ownBlock])
  obtain ⟨hl, hcase⟩ := hown
  rcases hcase with ⟨h0, _⟩ | ⟨g', cap', cur, hv, hbase, hbk, q1, q2, q3, q4⟩
  · cases h0
  injection hv with ha _ hc
  injection ha with ha
  injection ha with hg
  subst hg
  subst hc
  have hG : ∀ (m : Nat) (os : Array Obj) (dk : Array Nat), Below w1.heap.size w1 (sortWorld (en l) W g 0 m dk os) := fun m os dk =>
    hb.grown (grown_srt _) (below_size hb) (fun k hk => by cases hk; exact hbase)
  have hcmp : CmpReads Try.prog 112 #[.pointer (some ⟨B, 0, none⟩)] (en l) (cf l) g 0 (List.range l.length).toArray.size W := by
    intro m os dk _ x y
    have hx := Nat.mod_lt x (show 0 < l.length by omega)
    have hy := Nat.mod_lt y (show 0 < l.length by omega)
    exact order1_calls l ((x % l.length : Nat) : Int) ((y % l.length : Nat) : Int) B A c _ ((hG m os dk).cell (p := ⟨B, 0, none⟩) hBs |>.trans hB) (Kd.C_below hC (hG m os dk)) (by omega) (by omega) (by omega) (by omega)
  have hH : Holds (en l) W g 0 (List.range l.length).toArray := by
    intro j hj
    have hj' : j < l.length := by simpa using hj
    refine ⟨?_, by simp [World.frozen?, hbk]⟩
    have := hcells j (.int .i64 (j : Int)) (by simp [encs, hj'])
    rw [add_plain] at this
    rw [Nat.zero_add, this]
    simp [en, hj', Nat.mod_eq_of_lt hj']
  have hs := sort_calls l g cap B (List.range l.length).toArray W (by simp) h12 hcmp hH
  refine hs.mono fun e w' ⟨he, n, hw⟩ => ⟨he, ?_⟩
  have hW : w' = grow (putRow (en l) (Sort.ahead W n) g 0 (srt l).toArray) #[] := by
    rw [hw, ← sortWorld_none]
    unfold srt
    rw [Array.toArray_toList]
    rfl
  have hlt : (srt l).length = l.length := by have := (srt_spec h1 hbd).1.length_eq; simpa using this
  refine ⟨?_, ?_⟩
  · rw [hW]
    have hlo : (orderF l).length = l.length := by simp [orderF, hlt]
    refine Kd.R_of_own (enc := Value.int .i64) ?_ (fun _ _ => trivial)
    rw [hlo]
    have e1 : encs (Value.int .i64) (orderF l) = (srt l).map (en l) := by simp [encs, orderF, en]
    rw [e1]
    have q1' : l.length ≤ cap := by simpa using q1
    exact owns_srt hlt hbase hbk q1' q2 q3
  · rw [hW]
    exact hb.grown (grown_srt _) (below_size hb) (fun k hk => by cases hk; exact hbase)
end Ord
theorem take_set_succ (xs : List Int) (i : Nat) (x : Int) (h : i < xs.length) : (xs.set i x).take (i + 1) = xs.take i ++ [x] := by
  rw [List.take_succ_eq_append_getElem (by rw [List.length_set]; exact h), List.take_set_of_le (Nat.le_refl _), List.getElem_set_self]
set_option maxHeartbeats 8000000 in
set_option maxRecDepth 100000 in
theorem order_calls (l : List Int) (h1 : 1 ≤ l.length) (h12 : l.length ≤ 12) (hbd : ∀ x ∈ l, 0 ≤ x ∧ x ≤ 1000) (A : Option Addr) (c : Nat) (w : World) (hC : Kd.C (Kd.int .i64) w A l.length l) (hc : l.length ≤ c) :
    Calls Try.prog 92 #[.slice A l.length c] w fun e w' => ∃ v, e = .returned v ∧ Kd.R (Kd.int .i64) 3 w' w.heap.size (fun _ => True) v (orderF l) ∧ Below w.heap.size w w' := by
  obtain ⟨w1, hw1⟩ : ∃ w1, w1 = w.alloc (.cells #[.slice A l.length c] 22) := ⟨_, rfl⟩
  have hB1 : Below w.heap.size w w1 := by rw [hw1]; exact below_alloc (Below.refl _ _) _
  have hsz : w.heap.size < w1.heap.size := by rw [hw1]; simp
  have hcell : w1.cell? ⟨w.heap.size, 0, none⟩ = some (.slice A l.length c) := by rw [hw1]; have := cell_one_new w (.slice A l.length c) 22 0 _ rfl; rwa [add_plain] at this
  have hC1 := Kd.C_below hC hB1
  have HSRT := Aside0.mk (fun g cap (W : World) (hb : Below w1.heap.size w1 W) ho => Ord.sorted l h1 h12 hbd A c g cap w.heap.size w1 W hcell hsz hC1 hb ho)
  have HB1 := Aside0.mk hB1
  have HSZ := Aside0.mk hsz
  have HW1 := Aside0.mk hw1
  clear hC hC1 hB1 hsz hbd
  go_enter Try.func92, Try.ntmps92
  go_wp2_with (first | ((with_reducible refine gate_dst (N := 7) rfl ?_); refine Kd.R_make (Kd.int .i64) _ 3 rfl (N := 7) rfl 22 _ _ rfl (l.length : Int) rfl rfl Try.underlying22 (.int .i64 0) 8 info3 rfl (by decide) (by omega) 0 (ok := fun _ => True) (okp := fun _ => True) rfl (fun _ hk => hk) trivial (by omega) (by omega) (Below.refl _ _) (Nat.le_refl _) ?_; intro v w2 ho hb hg_ hnew_; clear hg_ hnew_; rw [Int.toNat_natCast] at ho; rw [← HW1.out] at ho hb; obtain ⟨g, cap, rfl, _⟩ := Kd.R_form ho (by rw [List.length_replicate]; omega); rw [List.length_replicate] at ho ⊢; have HO := Aside0.mk ho; have HB := Aside0.mk hb; clear ho hb))
  go_loopw [10] (fun v10 wq => ∃ (i : Nat) (xs : List Int), v10 = .int .i64 i ∧ i ≤ l.length ∧ xs.length = l.length ∧ xs.take i = (List.range i).map (fun (i : Nat) => (i : Int)) ∧ Aside0 (Kd.R (Kd.int .i64) 3 wq w1.heap.size (fun _ => True) (.slice (some ⟨g, 0, none⟩) l.length cap) xs) ∧ Aside0 (Below w1.heap.size w1 wq)) (fun v10 _ => l.length - (intOf v10).toNat)
  case atStart => exact ⟨0, _, rfl, Nat.zero_le _, List.length_replicate, by simp, HO, HB⟩
  case round =>
    clear HO HB
    obtain ⟨i, xs, rfl, hi, hxl, hxt, HO, HB⟩ := hrel
    by_cases hlt : i < l.length
    · have k1 : decide ((i : Int) < (l.length : Int)) = true := decide_eq_true (by omega)
      have k2 : decide (i < l.length) = true := decide_eq_true hlt
      obtain ⟨hx, hf⟩ := Kd.R_celln 0 HO.out (i : Int) (by omega) (by omega)
      rw [Int.toNat_natCast] at hx hf
      obtain ⟨hp1, hp2⟩ := Kd.R_putg HO.out (i : Int) (i : Int)
      rw [Int.toNat_natCast] at hp1 hp2
      have HP1 := Aside0.mk hp1
      have HP2 := Aside0.mk hp2
      clear hp1 hp2
      go_wp2
      go_roundw
      case rel => exact ⟨i + 1, xs.set i (i : Int), by go_num, by omega, by rw [List.length_set]; exact hxl, by rw [List.range_succ, List.map_append, ← hxt]; exact take_set_succ _ _ _ (by omega), HP1, ⟨below_set HB.out (Kd.R_base HO.out g rfl)⟩⟩
      case measure => simp [intOf]; omega
    · have k1 : decide ((i : Int) < (l.length : Int)) = false := decide_eq_false (by omega)
      have k2 : decide (i < l.length) = false := decide_eq_false hlt
      obtain rfl : i = l.length := by omega
      rw [List.take_of_length_le (by omega)] at hxt
      subst hxt
      go_wp2_with (go_at_call 111; refine (HSRT.out g cap _ HB.out HO.out).mono ?_; rintro e w3 ⟨rfl, ho3, hb3⟩; have HO3 := Aside0.mk ho3; have HB3 := Aside0.mk hb3; clear ho3 hb3)
      go_ret
      exact ⟨_, rfl, Kd.R_lower HO3.out (Nat.le_of_lt HSZ.out), below_step HB1.out HB3.out⟩
end Go.Proofs.Ytefmafbbnkkpjaa.X
