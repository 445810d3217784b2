/- The walk of the reference's Merge at two valid lists. -/
import Derived.Test.YtdffhffhnjkcpaaE40
namespace Go.Proofs.Ytdffhffhnjkcpaa.X
open Go.RowKit Go.Shelf Go.Proofs.YtdffhffhnjkcpaaW.PrintWords Go.Proofs.YtdffhffhnjkcpaaW.PrintLast Go.Proofs.YtdffhffhnjkcpaaW.PrintMore
set_option linter.unusedVariables false
set_option linter.unusedSimpArgs false

def t70 (c : S64) : S70 := ⟨c.f0, c.f1, c.f2⟩
def L64 (l : List S64) : List S70 := l.map t70
theorem rd64m (l : List S64) (i : Nat) (h : i < l.length) : rd_T64 l (i : Int) = l[i] := by
  simp [rd_T64, List.getD_eq_getElem?_getD, List.getElem?_eq_getElem h]
def cntTo (L : List S70) (n : Int) (m : Nat) : Nat := ((List.range m).filter fun y : Nat => decide (n ≤ sumK L y)).length
theorem cntTo_succ (L : List S70) (n : Int) (m : Nat) : cntTo L n (m + 1) = cntTo L n m + if n ≤ sumK L m then 1 else 0 := by
  unfold cntTo
  rw [List.range_succ, List.filter_append, List.length_append]
  congr 1
  by_cases h : n ≤ sumK L m <;> simp [h]
theorem cntTo_le (L : List S70) (n : Int) (m : Nat) : cntTo L n m ≤ m := by
  unfold cntTo
  exact Nat.le_trans (List.length_filter_le _ _) (by simp)
def lessTo (k : Int) (L : List S70) : Nat → Int
  | 0 => 0
  | n + 1 => if k < (cntTo L ((n : Int) + 1) 16 : Int) then (n : Int) + 1 else lessTo k L n
theorem lessTo_succ (k : Int) (L : List S70) (n : Nat) : lessTo k L (n + 1) = if k < (cntTo L ((n : Int) + 1) 16 : Int) then (n : Int) + 1 else lessTo k L n := rfl
theorem lessTo_bound (k : Int) (L : List S70) : ∀ n : Nat, 0 ≤ lessTo k L n ∧ lessTo k L n ≤ n
  | 0 => by simp [lessTo]
  | n + 1 => by
    have := lessTo_bound k L n
    rw [lessTo]
    split <;> omega
def mergeR (e : Int) (L : List S70) (m : Nat) : List S64 := (List.range m).filterMap fun y : Nat => if e < sumK L y then some ⟨(y : Int), sumK L y - e, 0⟩ else none
theorem mergeR_succ (e : Int) (L : List S70) (m : Nat) : mergeR e L (m + 1) = mergeR e L m ++ if e < sumK L m then [⟨(m : Int), sumK L m - e, 0⟩] else [] := by
  unfold mergeR
  rw [List.range_succ, List.filterMap_append]
  congr 1
  simp only [List.filterMap_cons, List.filterMap_nil]
  split <;> simp_all
theorem mergeR_len (e : Int) (L : List S70) (m : Nat) : (mergeR e L m).length ≤ m := by
  unfold mergeR
  have := List.length_filterMap_le (fun y : Nat => if e < sumK L y then some (⟨(y : Int), sumK L y - e, 0⟩ : S64) else none) (List.range m)
  simpa using this
theorem R_set64 {W : World} {base : Nat} {ok : Nat → Prop} {v : Value} {xs : List S64} (h : Kd.R k64 64 W base ok v xs) {b : Nat} {cs : Array Value} (hx : W.heap[b]? = some (.cells cs 77 (0, 0))) (i : Nat) (z : Value) : Kd.R k64 64 (W.setCell ⟨b, i, none⟩ z) base ok v xs :=
  Kd.R_set h hx (fun q hq => by have h : q ∈ [64] := hq; rw [List.mem_singleton] at h; omega) _ _
/-- The lists that are summed after i of the two. -/
def pre2 (l1 l2 : List S64) (i : Nat) : List S64 := if i = 0 then [] else if i = 1 then l1 else l1 ++ l2

structure Ok64 (l : List S64) : Prop where
  len : l.length ≤ 8
  key : ∀ c ∈ l, 0 ≤ c.f0 ∧ c.f0 < 16
  num : ∀ c ∈ l, 1 ≤ c.f1 ∧ c.f1 ≤ 40
theorem L64_snoc (p l : List S64) (j : Nat) (h : j < l.length) : L64 (p ++ l.take (j + 1)) = L64 (p ++ l.take j) ++ [t70 l[j]] := by
  rw [L64, L64, List.take_succ_eq_append_getElem h, ← List.append_assoc, List.map_append, List.map_cons, List.map_nil]
theorem L64_num {p : List S64} (h : ∀ c ∈ p, 1 ≤ c.f1 ∧ c.f1 ≤ 40) : ∀ c ∈ L64 p, 1 ≤ c.f1 ∧ c.f1 ≤ 40 := by
  intro c hc
  obtain ⟨d, hd, rfl⟩ := List.mem_map.mp hc
  exact h d hd

set_option maxHeartbeats 8000000 in
set_option maxRecDepth 100000 in
theorem rmerge_calls (a0 : Int) (A1 A2 : Option Addr) (c1 c2 : Nat) (l1 l2 : List S64) (w : World) (hk1 : 1 ≤ a0) (hk8 : a0 ≤ 8) (h1 : Ok64 l1) (h2 : Ok64 l2) (hr1 : Kd.C k64 w A1 l1.length l1) (hr2 : Kd.C k64 w A2 l2.length l2) (hc1 : l1.length ≤ c1) (hc2 : l2.length ≤ c2) :
    Calls Try.prog 45 #[.int .i64 a0, .slice A1 l1.length c1, .slice A2 l2.length c2] w fun e w' => ∃ v0_ : Value, e = .returned v0_ ∧ Kd.R k64 64 w' w.heap.size (fun _ => True) v0_ (mergeR (lessTo a0 (L64 (l1 ++ l2)) 80) (L64 (l1 ++ l2)) 16) ∧ Below w.heap.size w w' := by
  have HP1 := Aside0.mk h1
  have HP2 := Aside0.mk h2
  have HR1 := Aside0.mk hr1
  have HR2 := Aside0.mk hr2
  have hz : (sumV []).toArray = #[.int .i64 0, .int .i64 0, .int .i64 0, .int .i64 0, .int .i64 0, .int .i64 0, .int .i64 0, .int .i64 0, .int .i64 0, .int .i64 0, .int .i64 0, .int .i64 0, .int .i64 0, .int .i64 0, .int .i64 0, .int .i64 0] := by rfl
  have HZ := Aside0.mk hz
  clear hz hr1 hr2 h1 h2
  generalize hLL : L64 (l1 ++ l2) = L
  have HLL := Aside0.mk hLL
  clear hLL
  go_enter Try.func45, Try.ntmps45
  go_wp2_with (first | ((with_reducible refine gate_dst (N := 7) rfl ?_); refine box_event ?hg8 (N := 7) ?hd8 (cs := #[.int .i64 0, .int .i64 0, .int .i64 0, .int .i64 0, .int .i64 0, .int .i64 0, .int .i64 0, .int .i64 0, .int .i64 0, .int .i64 0, .int .i64 0, .int .i64 0, .int .i64 0, .int .i64 0, .int .i64 0, .int .i64 0]) (t := 77) ?hr8 ?_; (case hd8 => rfl); (case hg8 => rfl); (case hr8 => first | (go_simp; done) | (go_simp; rfl)); intro g8 hg8 w1 hbox hb; rw [← HZ.out] at hbox; have HS1 := Aside0.mk hbox; have HB1 := Aside0.mk (show Below w.heap.size w w1 from below_step (by repeat (first | exact Below.refl _ _ | apply pw_below_drewN)) hb); have HG8 := Aside0.mk (show w.heap.size ≤ g8 from Nat.le_of_eq hg8.symm); clear hbox hb hg8) | ((with_reducible refine gate_dst (N := 22) rfl ?_); refine slice_event ?hg28 (N := 22) ?hd28 (cs := #[.slice A1 l1.length c1, .slice A2 l2.length c2]) (t := 56) (n := 2) ?hr28 ?_; (case hd28 => rfl); (case hg28 => rfl); (case hr28 => first | (go_simp; done) | (go_simp; rfl)); intro gc hgc w2 hblk hb; have HC2 := Aside0.mk hblk; have HS2 := Aside0.mk (blk_below HS1.out hb); have HB2 := Aside0.mk (below_step HB1.out hb); have HGC := Aside0.mk (show g8 ≠ gc from by rw [hgc]; have := blk_lt HS1.out; omega); clear hblk hb hgc))
  clear HS1 HB1
  go_loopw [24] (fun v24 wr => ∃ i : Nat, i ≤ 2 ∧ v24 = .int .i64 i ∧ Aside0 (wr.heap[g8]? = some (.cells (sumV (L64 (pre2 l1 l2 i))).toArray 77 (0, 0))) ∧ Aside0 (wr.heap[gc]? = some (.cells #[.slice A1 l1.length c1, .slice A2 l2.length c2] 56 (0, 0))) ∧ Aside0 (Below w.heap.size w wr)) (fun v24 _ => 2 - (intOf v24).toNat)
  case atStart => exact ⟨0, by omega, rfl, HS2, HC2, HB2⟩
  case round =>
    clear HS2 HC2 HB2
    obtain ⟨i, hi, rfl, HS, HC, HB⟩ := hrel
    by_cases hlt : i < 2
    · obtain ⟨A, c, l, hcell, hcl, HR, HP, hpre, HQ⟩ : ∃ (A : Option Addr) (c : Nat) (l : List S64), wr.cell? ⟨gc, i, none⟩ = some (.slice A l.length c) ∧ l.length ≤ c ∧ Aside0 (Kd.C k64 w A l.length l) ∧ Aside0 (Ok64 l) ∧ Aside0 (pre2 l1 l2 (i + 1) = pre2 l1 l2 i ++ l) ∧ Aside0 ((∀ c ∈ pre2 l1 l2 i, 1 ≤ c.f1 ∧ c.f1 ≤ 40) ∧ (pre2 l1 l2 i).length ≤ 8) := by
        rcases (show i = 0 ∨ i = 1 by omega) with rfl | rfl
        · exact ⟨A1, c1, l1, (blk_cell HC.out 0).trans rfl, hc1, HR1, HP1, ⟨by simp [pre2]⟩, ⟨by simp [pre2], by simp [pre2]⟩⟩
        · exact ⟨A2, c2, l2, (blk_cell HC.out 1).trans rfl, hc2, HR2, HP2, ⟨by simp [pre2]⟩, ⟨by simpa [pre2] using HP1.out.num, by simpa [pre2] using HP1.out.len⟩⟩
      have hid : decide ((i : Int) < 2) = true := decide_eq_true (by omega)
      generalize pre2 l1 l2 i = p at *
      have hll := HP.out.len
      go_wp2
      go_loopw [30] (fun v30 wr => ∃ j : Nat, j ≤ l.length ∧ v30 = .int .i64 j ∧ Aside0 (wr.heap[g8]? = some (.cells (sumV (L64 (p ++ l.take j))).toArray 77 (0, 0))) ∧ Aside0 (wr.heap[gc]? = some (.cells #[.slice A1 l1.length c1, .slice A2 l2.length c2] 56 (0, 0))) ∧ Aside0 (Below w.heap.size w wr)) (fun v30 _ => l.length - (intOf v30).toNat)
      case atStart => exact ⟨0, by omega, rfl, ⟨by rw [List.take_zero, List.append_nil]; exact HS.out⟩, HC, HB⟩
      case round =>
        clear HS HC HB hcell
        obtain ⟨j, hj, rfl, HS, HC, HB⟩ := hrel
        by_cases hjl : j < l.length
        · have hjd : decide ((j : Int) < (l.length : Int)) = true := decide_eq_true (by omega)
          have hjd2 : decide (j < l.length) = true := decide_eq_true hjl
          obtain ⟨ad, e, hx0, hx1, hx2⟩ := at_T64 HR.out (j : Int) (by omega) (by omega)
          subst e
          replace hx0 := (HB.out.cell (World.block_lt_of_cell? w _ hx0)).trans hx0
          replace hx1 := (HB.out.cell (World.block_lt_of_cell? w _ hx1)).trans hx1
          replace hx2 := (HB.out.cell (World.block_lt_of_cell? w _ hx2)).trans hx2
          rw [rd64m l j hjl] at hx0 hx1 hx2
          rw [Int.toNat_natCast] at hx0 hx1 hx2
          have hkq := HP.out.key l[j] (List.getElem_mem hjl)
          have hnq := HP.out.num l[j] (List.getElem_mem hjl)
          have hts := Aside0.mk (L64_snoc p l j hjl)
          have hnum : ∀ c ∈ p ++ l.take j, 1 ≤ c.f1 ∧ c.f1 ≤ 40 := fun c hc => (List.mem_append.mp hc).elim (HQ.out.1 c) (fun h => HP.out.num c (List.mem_of_mem_take h))
          have hsb := sumK_bound (L64_num hnum) l[j].f0.toNat
          have hlt2 : (L64 (p ++ l.take j)).length ≤ 16 := by
            have := HQ.out.2
            simp only [L64, List.length_map, List.length_append, List.length_take]; omega
          have hset := Aside0.mk (sumV_set (L64 (p ++ l.take j)) (t70 l[j]) hkq.1 hkq.2)
          have hsat := Aside0.mk (sumV_at (L64 (p ++ l.take j)) l[j].f0.toNat (by omega))
          simp only [t70] at hset
          clear hnum
          generalize L64 (p ++ l.take j) = LL at *
          generalize l[j] = q at *
          obtain ⟨hk0, hk1⟩ := hkq
          obtain ⟨hn0, hn1⟩ := hnq
          generalize hsk : sumK LL q.f0.toNat = sk at *
          clear hsk
          obtain ⟨hs0, hs1⟩ := hsb
          go_wp2_with (first | ((with_reducible refine gate_dst (N := 11) rfl ?_); refine box_event ?hg10 (N := 11) ?hd10 (cs := #[.int .i64 0, .int .i64 0, .int .i64 0]) (t := 64) ?hr10 ?_; (case hd10 => rfl); (case hg10 => rfl); (case hr10 => first | (go_simp; done) | (go_simp; rfl)); intro gb hgb w4 hbox hb; have HBX := Aside0.mk hbox; have HS4 := Aside0.mk (blk_below HS.out hb); have HC4 := Aside0.mk (blk_below HC.out hb); have HB4 := Aside0.mk (below_step HB.out hb); have HGB := Aside0.mk (show w.heap.size ≤ gb from by rw [hgb]; exact below_size HB.out); have HGN := Aside0.mk (show g8 ≠ gb from by rw [hgb]; have := blk_lt HS.out; omega); have HGM := Aside0.mk (show gc ≠ gb from by rw [hgb]; have := blk_lt HC.out; omega); have hz0 : w4.cell? ⟨gb, 0, none⟩ = some (.int .i64 0) := (blk_cell hbox 0).trans rfl; have hz1 : w4.cell? ⟨gb, 1, none⟩ = some (.int .i64 0) := (blk_cell hbox 1).trans rfl; have hz2 : w4.cell? ⟨gb, 2, none⟩ = some (.int .i64 0) := (blk_cell hbox 2).trans rfl; have hf0 := blk_frozen hbox 0; have hf1 := blk_frozen hbox 1; have hf2 := blk_frozen hbox 2; clear hbox hb hgb) | ((with_reducible refine gate_store (t := 64) (p := 11) rfl ?_); refine store_event (t := 64) (p := 11) (v := ?vo) (w1 := (((w4.setCell ⟨gb, 0, none⟩ (.int .i64 q.f0)).setCell ⟨gb, 1, none⟩ (.int .i64 q.f1)).setCell ⟨gb, 2, none⟩ (.int .i64 q.f2))) ?hg ?ho ?hn ?hr ?_; (case ho => rfl); (case hg => rfl); (case hn => rfl); (case hr => first | (go_simp; done) | (go_simp; rfl)); intro w5 hw; have HX5 := Aside0.mk (show w5.heap[gb]? = some (.cells #[.int .i64 q.f0, .int .i64 q.f1, .int .i64 q.f2] 64 (0, 0)) from by rw [hw]; exact blk_put (blk_put (blk_put HBX.out 0 _ rfl) 1 _ rfl) 2 _ rfl); have HB5 := Aside0.mk (show Below w.heap.size w w5 from by rw [hw]; exact below_set (below_set (below_set HB4.out HGB.out) HGB.out) HGB.out); have HS5 := Aside0.mk (show w5.heap[g8]? = some (.cells (sumV LL).toArray 77 (0, 0)) from by rw [hw]; exact blk_far (blk_far (blk_far HS4.out HGN.out _) HGN.out _) HGN.out _); have HC5 := Aside0.mk (show w5.heap[gc]? = some (.cells #[.slice A1 l1.length c1, .slice A2 l2.length c2] 56 (0, 0)) from by rw [hw]; exact blk_far (blk_far (blk_far HC4.out HGM.out _) HGM.out _) HGM.out _); clear hw))
          have HX6 := Aside0.mk (blk_drew HX5.out)
          have HS6 := Aside0.mk (blk_drew HS5.out)
          have HB6 := Aside0.mk (below_drew1 HB5.out)
          have HC6 := Aside0.mk (blk_drew HC5.out)
          have hp1 : (0 ≤ q.f0) = True := eq_true (by omega)
          have hp2 : (q.f0 < 16) = True := eq_true (by omega)
          refine start_ (n := 9) (S := fun w' => w'.cell? ⟨gb, 0, none⟩ = some (.int .i64 q.f0) ∧ w'.cell? ⟨gb, 1, none⟩ = some (.int .i64 q.f1) ∧ w'.cell? ⟨g8, q.f0.toNat, none⟩ = some (.int .i64 sk)) (ds := [8]) #[false, false, false, false, false, false, false, false, false] (by kernel_rfl) rfl rfl ⟨(blk_cell HX6.out 0).trans rfl, (blk_cell HX6.out 1).trans rfl, (blk_cell HS6.out q.f0.toNat).trans hsat.out⟩ (fun hHeld => ?_); refine with_tabW plus9.tab45 plus9.bits (fun HT_ HW_ => ?_)
          clear HX5 HS5 HB5 HC5
          generalize w5.drew = wd at HX6 HS6 HB6 HC6 hHeld ⊢
          refine pure_ (i := 0) (N := some 34) (v := ?_) (a' := ?_) #[true, false, false, false, false, false, false, false, false] rfl rfl (any_of HT_.out (by kernel_rfl)) (fun _ _ _ h => h) (Or.inl ⟨by rfl, ?_⟩) ?_ ?_
          rotate_left
          · intro w'
            go_simp
            with_reducible rfl
          rotate_left
          · simp only [Act.put, List.setIfInBounds_toArray, List.set_cons_zero, List.set_cons_succ, i64_w, i32_w]
            rfl
          refine take_ (i := 1) (N := some 35) (v := ?_) (a' := ?_) #[true, true, false, false, false, false, false, false, false] rfl rfl (take_ofW HT_.out HW_.out (by kernel_rfl)) (fun _ _ _ h => h) (Or.inl ⟨by rfl, ?_⟩) hHeld ?_ ?_
          rotate_left
          · rintro w' ⟨s0, s1, s2⟩
            go_simp
            with_reducible rfl
          rotate_left
          · simp only [Act.put, List.setIfInBounds_toArray, List.set_cons_zero, List.set_cons_succ, i64_w, i32_w]
            rfl
          refine pure_ (i := 2) (N := some 36) (v := ?_) (a' := ?_) #[true, true, true, false, false, false, false, false, false] rfl rfl (any_of HT_.out (by kernel_rfl)) (fun _ _ _ h => h) (Or.inl ⟨by rfl, ?_⟩) ?_ ?_
          rotate_left
          · intro w'
            go_simp
            with_reducible rfl
          rotate_left
          · simp only [Act.put, List.setIfInBounds_toArray, List.set_cons_zero, List.set_cons_succ, i64_w, i32_w]
            rfl
          refine take_ (i := 3) (N := some 37) (v := ?_) (a' := ?_) #[true, true, true, true, false, false, false, false, false] rfl rfl (take_ofW HT_.out HW_.out (by kernel_rfl)) (fun _ _ _ h => h) (Or.inl ⟨by rfl, ?_⟩) hHeld ?_ ?_
          rotate_left
          · rintro w' ⟨s0, s1, s2⟩
            go_simp
            with_reducible rfl
          rotate_left
          · simp only [Act.put, List.setIfInBounds_toArray, List.set_cons_zero, List.set_cons_succ, i64_w, i32_w]
            rfl
          refine pure_ (i := 4) (N := some 38) (v := ?_) (a' := ?_) #[true, true, true, true, true, false, false, false, false] rfl rfl (any_of HT_.out (by kernel_rfl)) (fun _ _ _ h => h) (Or.inl ⟨by rfl, ?_⟩) ?_ ?_
          rotate_left
          · intro w'
            go_simp
            with_reducible rfl
          rotate_left
          · simp only [Act.put, List.setIfInBounds_toArray, List.set_cons_zero, List.set_cons_succ, i64_w, i32_w]
            rfl
          refine take_ (i := 5) (N := some 39) (v := ?_) (a' := ?_) #[true, true, true, true, true, true, false, false, false] rfl rfl (take_ofW HT_.out HW_.out (by kernel_rfl)) (fun _ _ _ h => h) (Or.inl ⟨by rfl, ?_⟩) hHeld ?_ ?_
          rotate_left
          · rintro w' ⟨s0, s1, s2⟩
            go_simp
            with_reducible rfl
          rotate_left
          · simp only [Act.put, List.setIfInBounds_toArray, List.set_cons_zero, List.set_cons_succ, i64_w, i32_w]
            rfl
          refine pure_ (i := 6) (N := some 40) (v := ?_) (a' := ?_) #[true, true, true, true, true, true, true, false, false] rfl rfl (any_of HT_.out (by kernel_rfl)) (fun _ _ _ h => h) (Or.inl ⟨by rfl, ?_⟩) ?_ ?_
          rotate_left
          · intro w'
            go_simp
            with_reducible rfl
          rotate_left
          · simp only [Act.put, List.setIfInBounds_toArray, List.set_cons_zero, List.set_cons_succ, i64_w, i32_w]
            rfl
          refine pure_ (i := 7) (N := some 41) (v := ?_) (a' := ?_) #[true, true, true, true, true, true, true, true, false] rfl rfl (any_of HT_.out (by kernel_rfl)) (fun _ _ _ h => h) (Or.inl ⟨by rfl, ?_⟩) ?_ ?_
          rotate_left
          · intro w'
            go_simp
            with_reducible rfl
          rotate_left
          · simp only [Act.put, List.setIfInBounds_toArray, List.set_cons_zero, List.set_cons_succ, i64_w, i32_w]
            rfl
          refine last_ (i := 8) (N := none) #[true, true, true, true, true, true, true, true, true] rfl rfl (one_of HT_.out (by kernel_rfl)) (by decide) (fun K hK => ?_)
          have y0 : wd.cell? ⟨g8, q.f0.toNat, none⟩ = some (.int .i64 sk) := (blk_cell HS6.out q.f0.toNat).trans hsat.out
          have f0 : wd.frozen? ⟨g8, q.f0.toNat, none⟩ = false := blk_frozen HS6.out _
          refine store_step9_ (w1 := wd.setCell ⟨g8, q.f0.toNat, none⟩ (.int .i64 (sk + q.f1))) (by rfl) (by first | (go_simp; done) | (go_simp; rw [i64_at_sum sk q.f1 hs0 hs1 hn0 hn1 hlt2])) ?_
          refine hK.out _ _ ?_
          clear hK K
          refine done_ (done_of HT_.out (by kernel_rfl)) ?_
          go_wp2
          go_roundw
          case rel => exact ⟨j + 1, by omega, by go_num, ⟨by rw [hts.out]; have h9 := hset.out; simp only [t70]; rw [← h9]; exact blk_set HS6.out _ _⟩, ⟨blk_far HC6.out HGC.out.symm _⟩, ⟨below_set HB6.out HG8.out⟩⟩
          case measure => simp [intOf]; omega
        · have hjd : decide ((j : Int) < (l.length : Int)) = false := decide_eq_false (by omega)
          have hjd2 : decide (j < l.length) = false := decide_eq_false hjl
          obtain rfl : j = l.length := by omega
          rw [List.take_length, ← hpre.out] at HS
          go_wp2
          go_roundw
          case rel => exact ⟨i + 1, by omega, by go_num, HS, HC, HB⟩
          case measure => simp [intOf]; omega
    · have hid : decide ((i : Int) < 2) = false := decide_eq_false (by omega)
      obtain rfl : i = 2 := by omega
      have hpl : pre2 l1 l2 2 = l1 ++ l2 := by simp [pre2]
      rw [hpl, HLL.out] at HS
      have hnum : ∀ c ∈ l1 ++ l2, 1 ≤ c.f1 ∧ c.f1 ≤ 40 := fun c hc => (List.mem_append.mp hc).elim (HP1.out.num c) (HP2.out.num c)
      have HN := Aside0.mk (L64_num hnum)
      rw [HLL.out] at HN
      have hlen : L.length ≤ 16 := by
        rw [← HLL.out]
        have := HP1.out.len
        have := HP2.out.len
        simp only [L64, List.length_map, List.length_append]; omega
      clear hnum hpl HC hlt hi
      go_wp2
      go_loopw [12, 13] (fun v12 v13 wq => ∃ n : Nat, n ≤ 80 ∧ v13 = .int .i64 ((n + 1 : Nat) : Int) ∧ v12 = .int .i64 (lessTo a0 L n) ∧ wq = wr) (fun _ v13 _ => 81 - (intOf v13).toNat)
      case atStart => exact ⟨0, by omega, rfl, rfl, rfl⟩
      case round =>
        obtain ⟨n, hn, rfl, rfl, rfl⟩ := hrel
        by_cases hnl : n < 80
        · have hnd : decide (((n + 1 : Nat) : Int) ≤ 80) = true := decide_eq_true (by omega)
          have hls := Aside0.mk (lessTo_succ a0 L n)
          have hcs := Aside0.mk (cntTo_succ L ((n : Int) + 1))
          have hce := Aside0.mk (cntTo_le L ((n : Int) + 1))
          generalize lessTo a0 L n = e0 at *
          generalize hcn : cntTo L ((n : Int) + 1) = cn at *
          have hc0 : cn 0 = 0 := by rw [← hcn]; rfl
          go_wp2_with (first | ((with_reducible refine gate_dst (N := 48) rfl ?_); refine wpList_load_row rfl 77 (.tmp 7) rfl g8 rfl 77 (sumV L).toArray (0, 0) _ HS.out Try.underlying77 rfl info77m ?_))
          go_loopw [14, 49] (fun v14 v49 wq => ∃ m : Nat, m ≤ 16 ∧ v49 = .int .i64 m ∧ v14 = .int .i64 (cn m : Nat) ∧ wq = wr) (fun _ v49 _ => 16 - (intOf v49).toNat)
          case atStart => exact ⟨0, by omega, rfl, by rw [hc0]; rfl, rfl⟩
          case round =>
            obtain ⟨m, hm, rfl, rfl, rfl⟩ := hrel
            by_cases hml : m < 16
            · have hidx := run_index_sum L (m : Int) (by omega) (by omega)
              rw [Int.toNat_natCast] at hidx
              have hid2 : decide ((m : Int) < 16) = true := decide_eq_true (by omega)
              have hcm := Aside0.mk (hcs.out m)
              have hcl := hce.out m
              by_cases hp : (n : Int) + 1 ≤ sumK L m
              · have hgd : decide (((n + 1 : Nat) : Int) ≤ sumK L m) = true := decide_eq_true (by omega)
                have hgd2 : decide ((n : Int) + 1 ≤ sumK L m) = true := decide_eq_true hp
                have hcm2 := Aside0.mk (show cn (m + 1) = cn m + 1 by rw [hcm.out, if_pos hp])
                clear hcm hp
                generalize sumK L m = sm at *
                go_wp2
                go_roundw
                case rel => exact ⟨m + 1, by omega, by go_num, by rw [hcm2.out]; go_num, by first | rfl | trivial⟩
                case measure => simp [intOf]; omega
              · have hgd : decide (((n + 1 : Nat) : Int) ≤ sumK L m) = false := decide_eq_false (by omega)
                have hgd2 : decide ((n : Int) + 1 ≤ sumK L m) = false := decide_eq_false hp
                have hcm2 := Aside0.mk (show cn (m + 1) = cn m by rw [hcm.out, if_neg hp, Nat.add_zero])
                clear hcm hp
                generalize sumK L m = sm at *
                go_wp2
                go_roundw
                case rel => exact ⟨m + 1, by omega, by go_num, by rw [hcm2.out], by first | rfl | trivial⟩
                case measure => simp [intOf]; omega
            · have hid2 : decide ((m : Int) < 16) = false := decide_eq_false (by omega)
              obtain rfl : m = 16 := by omega
              by_cases hp : a0 < (cn 16 : Int)
              · have hgd : decide (a0 < (cn 16 : Int)) = true := decide_eq_true hp
                have hls2 := Aside0.mk (show lessTo a0 L (n + 1) = (n : Int) + 1 by rw [hls.out, if_pos hp])
                go_wp2
                go_roundw
                case rel => exact ⟨_, _, _, _, _, _, _, _, _, _, _, _, _, _, _, _, _, _, _, _, _, _, ⟨n + 1, by omega, by go_num, by rw [hls2.out], by first | rfl | trivial⟩, rfl⟩
                case measure => simp [intOf]; omega
              · have hgd : decide (a0 < (cn 16 : Int)) = false := decide_eq_false hp
                have hls2 := Aside0.mk (show lessTo a0 L (n + 1) = e0 by rw [hls.out, if_neg hp])
                go_wp2
                go_roundw
                case rel => exact ⟨n + 1, by omega, by omega, hls2.out.symm⟩
                case measure => simp [intOf]; omega
        · have hnd : decide (((n + 1 : Nat) : Int) ≤ 80) = false := decide_eq_false (by omega)
          obtain rfl : n = 80 := by omega
          have hlb := lessTo_bound a0 L 80
          generalize hle : lessTo a0 L 80 = le at *
          have HLE := Aside0.mk hle
          clear hle
          go_wp2_with (first | ((with_reducible refine gate_dst (N := 62) rfl ?_); refine wpList_load_row rfl 77 (.tmp 7) rfl g8 rfl 77 (sumV L).toArray (0, 0) _ HS.out Try.underlying77 rfl info77m ?_))
          go_loopw [17, 63] (fun v17 v63 wr => ∃ i : Nat, ∃ A c, v17 = .slice A (mergeR le L i).length c ∧ i ≤ 16 ∧ v63 = .int .i64 i ∧ Aside0 (Kd.R k64 64 wr w.heap.size (fun _ => True) v17 (mergeR le L i)) ∧ Aside0 (Below w.heap.size w wr)) (fun _ v63 _ => 16 - (intOf v63).toNat)
          case atStart => exact ⟨0, none, 0, rfl, by omega, rfl, ⟨show Kd.R k64 64 wr w.heap.size (fun _ => True) (.slice none 0 0) [] from Kd.R_nil _ _ _ _ _⟩, HB⟩
          case round =>
            clear HB HS
            obtain ⟨i, A6, c6, rfl, hi, rfl, HO6, HB6⟩ := hrel
            by_cases hlt : i < 16
            · have hc := Aside0.mk (sumK_bound HN.out i)
              have hidx := run_index_sum L (i : Int) (by omega) (by omega)
              rw [Int.toNat_natCast] at hidx
              have hsu := Aside0.mk (mergeR_succ le L i)
              have hln := Aside0.mk (mergeR_len le L i)
              have hid : decide ((i : Int) < 16) = true := decide_eq_true (by omega)
              by_cases hp : le < sumK L i
              · have hgd : decide (le < sumK L i) = true := decide_eq_true hp
                have hsu2 := Aside0.mk (show mergeR le L (i + 1) = mergeR le L i ++ [⟨(i : Int), sumK L i - le, 0⟩] by rw [hsu.out, if_pos hp])
                have hwr := i64_sub2 le (sumK L i) hlb.1 hp hc.out.2 hlen
                generalize hcc : sumK L i = cc at *
                clear hsu hcc
                generalize mergeR le L i = out at *
                go_wp2_with (first | ((with_reducible refine gate_builtin (b := .append) (xs := #[.tmp 70, .tmp 76]) rfl ?_); at_builtin; refine Kd.R_append k64 (w0 := w) w.heap.size rfl (.tmp 70) (.tmp 76) 56 64 (.agg #[(.int .i64 0), (.int .i64 0), (.int .i64 0)]) 24 rfl Try.underlying56 info64 rfl (by decide) (by omega) (.slice A6 out.length c6) out (⟨(i : Int), cc - le, 0⟩ : S64) [.int .i64 (i : Int), .int .i64 (cc - le), .int .i64 0] (fun _ => True) (fun _ => False) rfl rfl ?aP (fun _ hk => hk.elim) ?aF ?aO ?aB ?aS ?aL ?_; (case aP => exact k64_mkM _ _ _ (⟨(i : Int), cc - le, 0⟩ : S64)); (case aB => exact (by repeat (first | (with_reducible first | exact HB6.out | apply below_alloc | apply pw_below_drewN | apply below_drew1) | exact HB6.out))); (case aF => exact (fun _ _ => trivial)); (case aO => exact (by (with_reducible repeat (first | apply Kd.R_alloc | apply Kd.R_drewN | apply Kd.R_drew)); exact HO6.out)); (case aS => exact (below_size (by repeat (first | (with_reducible first | exact HB6.out | apply below_alloc | apply pw_below_drewN | apply below_drew1) | exact HB6.out)))); (case aL => have := hln.out; omega); intro v7 w7 ho hb hg hat; rw [← hsu2.out] at ho; obtain ⟨A7, c7, rfl⟩ := Kd.R_slice ho; have HO7 := Aside0.mk ho; have HB7 := Aside0.mk hb; clear ho hb hg hat))
                go_roundw
                case rel => exact ⟨i + 1, A7, c7, rfl, by omega, by go_num, HO7, HB7⟩
                case measure => simp [intOf]; omega
              · have hgd : decide (le < sumK L i) = false := decide_eq_false hp
                have hsu2 := Aside0.mk (show mergeR le L (i + 1) = mergeR le L i by rw [hsu.out, if_neg hp, List.append_nil])
                generalize hcc : sumK L i = cc at *
                clear hsu hcc
                go_wp2
                go_roundw
                case rel => exact ⟨i + 1, A6, c6, by rw [hsu2.out], by omega, by go_num, ⟨by rw [hsu2.out]; exact HO6.out⟩, HB6⟩
                case measure => simp [intOf]; omega
            · have hid : decide ((i : Int) < 16) = false := decide_eq_false (by omega)
              obtain rfl : i = 16 := by omega
              clear hlt hi
              go_wp2
              go_ret
              exact ⟨.slice A6 (mergeR le L 16).length c6, by rfl, by rw [HLE.out]; exact HO6.out, HB6.out⟩
def rlistB (k : Int) (l : List S64) : Bool := listB k (L64 l)
theorem ok64_of {k : Int} {l : List S64} (h : rlistB k l = true) : (1 ≤ k ∧ k ≤ 8) ∧ Ok64 l := by
  obtain ⟨hk, hO, _⟩ := listOk_of h
  refine ⟨hk, ⟨by have := hO.len; simp [L64] at this; omega, fun c hc => hO.key (t70 c) (List.mem_map.mpr ⟨c, hc, rfl⟩), fun c hc => hO.num (t70 c) (List.mem_map.mpr ⟨c, hc, rfl⟩)⟩⟩
/-- What the reference's Merge answers, told at two valid lists alone. -/
def xRMerge.f (a0 : Int) (l1 l2 : List S64) : Option (List S64) := if rlistB a0 l1 = true ∧ rlistB a0 l2 = true then some (mergeR (lessTo a0 (L64 (l1 ++ l2)) 80) (L64 (l1 ++ l2)) 16) else none
theorem xRMerge.calls (a0 : Int) (A1 : Option Addr) (c1 : Nat) (l1 : List S64) (A2 : Option Addr) (c2 : Nat) (l2 : List S64) (r : List S64) (w : World) (hr1 : Kd.C k64 w A1 l1.length l1) (hc1 : l1.length ≤ c1) (hr2 : Kd.C k64 w A2 l2.length l2) (hc2 : l2.length ≤ c2) (h : xRMerge.f a0 l1 l2 = some r) :
    Calls Try.prog 45 #[.int .i64 a0, .slice A1 l1.length c1, .slice A2 l2.length c2] w fun e w' => ∃ v0_ : Value, e = .returned v0_ ∧ Kd.R k64 64 w' w.heap.size (fun _ => True) v0_ r ∧ Below w.heap.size w w' := by
  unfold xRMerge.f at h
  split at h
  · rename_i hv
    obtain rfl := Option.some.inj h
    obtain ⟨hk, h1⟩ := ok64_of hv.1
    exact rmerge_calls a0 A1 A2 c1 c2 l1 l2 w hk.1 hk.2 h1 (ok64_of hv.2).2 hr1 hr2 hc1 hc2
  · cases h
end Go.Proofs.Ytdffhffhnjkcpaa.X
