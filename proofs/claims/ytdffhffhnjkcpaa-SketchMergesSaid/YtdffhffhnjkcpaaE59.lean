/- The walk of often: it returns how often each of the sixteen keys comes in a stream. -/
import Derived.Test.YtdffhffhnjkcpaaX0
import Derived.Laws.Rows
namespace Go.Proofs.Ytdffhffhnjkcpaa.X
open Go.RowKit Go.Proofs.YtdffhffhnjkcpaaW.PrintWords Go.Proofs.YtdffhffhnjkcpaaW.PrintLast Go.Proofs.YtdffhffhnjkcpaaW.PrintMore
set_option linter.unusedVariables false
set_option linter.unusedSimpArgs false

def cnt (l : List Int) (key : Nat) : Int := (l.countP (fun x => x == (key : Int)) : Nat)
def cnts (l : List Int) : List Value := (List.range 16).map fun key => .int .i64 (cnt l key)
theorem cnts_length (l : List Int) : (cnts l).length = 16 := by simp [cnts]
theorem cnts_at (l : List Int) (j : Nat) (h : j < 16) : (cnts l).toArray[j]? = some (.int .i64 (cnt l j)) := by
  simp [cnts, List.getElem?_range h]
theorem cnt_le (l : List Int) (j : Nat) : 0 ≤ cnt l j ∧ cnt l j ≤ l.length := by
  have := List.countP_le_length (p := fun x : Int => x == (j : Int)) (l := l)
  unfold cnt
  omega
theorem cnt_snoc (l : List Int) (x : Int) (j : Nat) : cnt (l ++ [x]) j = cnt l j + if x = (j : Int) then 1 else 0 := by
  unfold cnt
  rw [List.countP_append]
  by_cases h : x = (j : Int) <;> simp [List.countP_cons, h]
theorem cnts_set (l : List Int) (x : Int) (h0 : 0 ≤ x) (h1 : x < 16) : (cnts l).toArray.setIfInBounds x.toNat (.int .i64 (cnt l x.toNat + 1)) = (cnts (l ++ [x])).toArray := by
  apply Array.ext_getElem?
  intro i
  by_cases hi : i < 16
  · rw [cnts_at _ _ hi, cnt_snoc, Array.getElem?_setIfInBounds]
    by_cases e : x.toNat = i
    · subst e
      have : x = (x.toNat : Int) := by omega
      rw [if_pos rfl, if_pos (by simpa [cnts_length] using hi), if_pos this]
    · rw [if_neg e, cnts_at _ _ hi, if_neg (by omega), Int.add_zero]
  · have h1 : ∀ l' : List Int, (cnts l').toArray[i]? = none := fun l' => by
      rw [Array.getElem?_eq_none_iff]
      have := cnts_length l'
      simp only [List.size_toArray]
      omega
    rw [h1, Array.getElem?_setIfInBounds, h1]
    have hs := cnts_length l
    split
    · rw [if_neg (by simp only [List.size_toArray]; omega)]
    · rfl
theorem take_snoc_rd (l : List Int) (k : Nat) (h : k < l.length) : l.take (k + 1) = l.take k ++ [rd l (k : Int)] := by
  rw [List.take_succ_eq_append_getElem h]
  simp [rd, List.getD_eq_getElem?_getD, List.getElem?_eq_getElem h]

theorem cnts_one (l : List Int) : (cnts l).toArray.all (·.oneCell') = true := by simp [cnts, Value.oneCell']
theorem cnts_size (l l' : List Int) : (cnts l).toArray.size = (cnts l').toArray.size := by simp [cnts]
theorem info77 : (Try.prog.info? 77).map (·.size) = some 16 := by kernel_rfl
theorem Below_setRow {w W : World} {g : Nat} {cs : Array Value} (h : Below w.heap.size w W) (hg : w.heap.size ≤ g) : Below w.heap.size w (W.setRow g cs) :=
  h.trans ⟨rfl, rfl, rfl, by simp [World.setRow], fun k hk => setRow_other W g k cs (by omega)⟩
set_option maxHeartbeats 4000000 in
set_option maxRecDepth 100000 in
theorem often_calls (A0 : Option Addr) (c0 : Nat) (l0 : List Int) (w : World) (hr0 : Kd.C (Kd.int .i64) w A0 l0.length l0) (hc0 : l0.length ≤ c0) (hl : l0.length ≤ 40) (hk : ∀ x ∈ l0, 0 ≤ x ∧ x < 16) :
    Calls Try.prog 59 #[.slice A0 l0.length c0] w fun e w' => e = .returned (.agg (cnts l0).toArray) ∧ Below w.heap.size w w' := by
  have HR0 := Aside0.mk hr0
  have HC0 := Aside0.mk hc0
  have HK := Aside0.mk hk
  clear hr0 hc0 hk
  have hz : (cnts []).toArray = #[.int .i64 0, .int .i64 0, .int .i64 0, .int .i64 0, .int .i64 0, .int .i64 0, .int .i64 0, .int .i64 0, .int .i64 0, .int .i64 0, .int .i64 0, .int .i64 0, .int .i64 0, .int .i64 0, .int .i64 0, .int .i64 0] := by rfl
  have HZ := Aside0.mk hz
  clear hz
  go_enter Try.func59, Try.ntmps59
  go_wp2
  go_loopw [8] (fun v8 wr => ∃ k : Nat, k ≤ l0.length ∧ v8 = .int .i64 k ∧ Aside0 (wr.heap[w.heap.size + 1]? = some (.cells (cnts (l0.take k)).toArray 77 (0, 0))) ∧ Aside0 (wr.heap[w.heap.size]? = some (.cells (cnts []).toArray 77 (0, 0))) ∧ Aside0 (Below w.heap.size w wr)) (fun v8 _ => l0.length - (intOf v8).toNat)
  case atStart =>
    refine ⟨0, Nat.zero_le _, rfl, ⟨?_⟩, ⟨?_⟩, ⟨?_⟩⟩
    · rw [List.take_zero, HZ.out]
      exact heap_alloc2_new _ _ _
    · rw [HZ.out]
      exact heap_alloc2_old _ _ _
    · exact below_alloc (below_alloc (Below.refl _ _) _) _
  case round =>
    obtain ⟨k, hk, rfl, H1, H0, HB⟩ := hrel
    by_cases hlt : k < l0.length
    · have hmem : rd l0 (k : Int) ∈ l0 := by
        have : rd l0 (k : Int) = l0[k] := by simp [rd, List.getD_eq_getElem?_getD, List.getElem?_eq_getElem hlt]
        rw [this]
        exact List.getElem_mem _
      have hx := HK.out _ hmem
      have hts := Aside0.mk (take_snoc_rd l0 k hlt)
      have hcnt := Aside0.mk (cnt_le (l0.take k) (rd l0 (k : Int)).toNat)
      obtain ⟨ad, e, hcell⟩ := Kd.at_int HR0.out (k : Int) (by omega) (by omega)
      cases e
      rw [Int.toNat_natCast] at hcell
      have hcell2 := pw_cell_below HB.out hcell
      clear hcell
      generalize rd l0 (k : Int) = x at *
      obtain ⟨hx0, hx1⟩ := hx
      have hc1 : wr.cell? ⟨w.heap.size + 1, x.toNat, none⟩ = some (.int .i64 (cnt (l0.take k) x.toNat)) := (blk_cell H1.out x.toNat).trans (cnts_at _ _ (by omega))
      have hfz : wr.frozen? ⟨w.heap.size + 1, x.toNat, none⟩ = false := blk_frozen H1.out _
      have hc2 : 0 ≤ cnt (l0.take k) x.toNat := hcnt.out.1
      have hc3 : cnt (l0.take k) x.toNat ≤ 40 := by
        have := hcnt.out.2
        rw [List.length_take] at this
        omega
      have hkd : decide ((k : Int) < (l0.length : Int)) = true := decide_eq_true (by omega)
      have hkd2 : decide (k < l0.length) = true := decide_eq_true hlt
      have hxd : decide (x < 16) = true := decide_eq_true hx1
      have hnew := Aside0.mk (blk_set H1.out x.toNat (.int .i64 (cnt (l0.take k) x.toNat + 1)))
      have hold := Aside0.mk (blk_far H0.out (p := ⟨w.heap.size + 1, x.toNat, none⟩) (by simp) (.int .i64 (cnt (l0.take k) x.toNat + 1)))
      have hbel := Aside0.mk (below_set HB.out (g := w.heap.size + 1) (j := x.toNat) (v := .int .i64 (cnt (l0.take k) x.toNat + 1)) (by omega))
      have hset := Aside0.mk (cnts_set (l0.take k) x hx0 hx1)
      generalize hcg : cnt (l0.take k) x.toNat = cc at *
      clear hcg
      go_wp2
      go_roundw
      case rel => exact ⟨k + 1, by omega, by go_num, ⟨by rw [hts.out, ← hset.out]; exact hnew.out⟩, hold, hbel⟩
      case measure => simp [intOf]; omega
    · have hkd : decide ((k : Int) < (l0.length : Int)) = false := decide_eq_false (by omega)
      have hkd2 : decide (k < l0.length) = false := decide_eq_false hlt
      have hkl : l0.take k = l0 := List.take_of_length_le (by omega)
      rw [hkl] at H1
      clear hlt hkl
      go_wp2_with (first | ((with_reducible refine gate_dst (N := 18) rfl ?_); refine wpList_load_row rfl 77 (.tmp 3) rfl (w.heap.size + 1) rfl 77 (cnts l0).toArray (0, 0) _ H1.out Try.underlying77 rfl info77 ?_) | ((with_reducible refine gate_store (t := 77) (p := 2) (v := .tmp 18) rfl ?_); refine wpList_store_row rfl 77 (.tmp 2) (.tmp 18) rfl w.heap.size (cnts l0).toArray rfl rfl 77 (cnts []).toArray H0.out info77 (cnts_size _ _) (cnts_one _) ?_))
      exact bodyPost_ret (v := .agg (cnts l0).toArray) (results_cell_row rfl _ _ w.heap.size 77 (cnts l0).toArray (0, 0) _ rfl (setRow_heap _ _ _ _ _ _ H0.out) Try.underlying77 rfl info77) rfl ⟨rfl, Below_setRow HB.out (Nat.le_refl _)⟩
end Go.Proofs.Ytdffhffhnjkcpaa.X
