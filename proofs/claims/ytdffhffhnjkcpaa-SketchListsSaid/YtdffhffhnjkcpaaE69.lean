/- The walk of replace: the least counter makes room for a key. -/
import Derived.Test.YtdffhffhnjkcpaaE70
import Derived.Test.YtdffhffhnjkcpaaS11
namespace Go.Proofs.Ytdffhffhnjkcpaa.X
open Go.RowKit Go.Shelf Go.Proofs.YtdffhffhnjkcpaaW.PrintWords Go.Proofs.YtdffhffhnjkcpaaW.PrintLast Go.Proofs.YtdffhffhnjkcpaaW.PrintMore
set_option linter.unusedVariables false
set_option linter.unusedSimpArgs false

theorem store_step_ {P : Program} {ops : Array Oper} {Q : Exit → Act → World → Prop} {o : Oper} {a : Act} {Kc : Act → World → Prop} {W w1 : World} {N : Option Tmp} (hw : Region.wanted o (yielded ops a.tmps) = true) (hrun : (execOp a.eval o).run P W = .ok .skip w1) (h : Kc (a.put o.dst undef) w1) : if Region.wanted o (yielded ops a.tmps) = true then Oper.wp P o a W Kc Q else Kc (a.put N undef) W := by
  rw [if_pos hw]
  unfold Oper.wp
  rw [hrun]
  exact h
def repl69.T : Bool × List (List Nat × List Nat) := (true, [([], []), ([0], [0]), ([1], [1]), ([2], [2]), ([], []), ([], []), ([5], [5]), ([4, 6], [4, 6]), ([], []), ([], []), ([9], [9]), ([10], [10]), ([], []), ([12], [12]), ([8, 11, 13], [8, 11, 13]), ([3, 7, 0, 1, 2, 3, 4, 5, 6, 7, 8, 9, 10, 11, 12, 13, 14], [3, 7]), ([15, 14, 7, 0, 1, 2, 3, 4, 5, 6, 7, 8, 9, 10, 11, 12, 13, 14], [14, 15])])
def repl69.B : List Nat := [0, 1, 3, 7, 0, 0, 32, 112, 0, 0, 512, 1536, 0, 4096, 16128, 32767, 65535]
theorem repl69.tab : rtab .any (opsOf Try.f69 1) = repl69.T := by kernel_rfl
theorem repl69.bits : waitsOk repl69.T.2 repl69.B = true := by kernel_rfl

set_option maxHeartbeats 8000000 in
set_option maxRecDepth 100000 in
theorem replace_calls (w0 W : World) (G : Nat) (a b v : Value) (x : Int) (l : List S70) (hl0 : 0 < l.length) (hl1 : l.length ≤ 100) (hnd : (keys l).Nodup) (hsm : ∀ c ∈ l, 1 ≤ c.f1 ∧ c.f1 ≤ 1000) (hL0 : W.heap[G]? = some (.cells #[a, b, v] 91 (0, 0))) (hb0 : Below w0.heap.size w0 W) (ho0 : Kd.R k70 70 W w0.heap.size (fun _ => True) v l) (hG : w0.heap.size ≤ G) :
    Calls Try.prog 69 #[.pointer (some ⟨G, 0, none⟩), .int .i64 x] W fun e w' => e = .returned (.tuple #[]) ∧ ∃ v', w'.heap[G]? = some (.cells #[a, b, v'] 91 (0, 0)) ∧ Kd.R k70 70 w' w0.heap.size (fun _ => True) v' (repl x l) ∧ Below w0.heap.size w0 w' := by
  obtain ⟨g, cap, rfl, hg0, hg1, cells, hgt⟩ := Kd.R_form ho0 hl0
  have HGG := Aside0.mk (show g ≠ G from blk_ne hgt hL0 (by decide))
  have hc2 : W.cell? ⟨G, 2, none⟩ = some (.slice (some ⟨g, 0, none⟩) l.length cap) := (blk_cell hL0 2).trans rfl
  have hne : l ≠ [] := by rintro rfl; simp at hl0
  obtain ⟨hm, _⟩ := leastOf_mem hne
  obtain ⟨i, hi, hidx, hfi, hset⟩ := idx_least hnd hne
  have hmin := min_f l hne hl1
  have hsmm := hsm _ hm
  have hset2 : l.set i ⟨x, (leastOf l).f1 + 1, (leastOf l).f1⟩ = repl x l := hset _
  generalize leastOf l = m at *
  obtain ⟨hs1, hs2⟩ := hsmm
  have HMN := Aside0.mk (fun Wq hC => sketch_Count_with83.calls 200 (some ⟨g, 0, none⟩) cap l m.f0 m.f1 m.f2 Wq hC (Kd.R_reads' ho0).2.1 hmin)
  have HCC := Aside0.mk (Kd.R_reads' ho0).2.2
  have HIX := Aside0.mk (show idxP (is m.f0) l = (i : Int) from hidx)
  have HST := Aside0.mk hset2
  have HL0 := Aside0.mk hL0
  have HB0 := Aside0.mk hb0
  have HO0 := Aside0.mk ho0
  have HG0 := Aside0.mk hg0
  have HGw := Aside0.mk hG
  clear hL0 hb0 ho0 hsm hg0 hgt hG hm hne hidx hfi hset hset2 hmin hnd hg1
  go_enter Try.func69, Try.ntmps69
  go_wp2_with (first | (go_at_call 82; refine (HMN.out _ HCC.out).mono ?_; rintro e w1 ⟨rfl, hb⟩; have HL1 := Aside0.mk (blk_below HL0.out hb); have HO1 := Aside0.mk (Kd.R_below HO0.out hb); have HB1 := Aside0.mk (below_step HB0.out hb); clear hb hc2) | ((with_reducible refine gate_dst (N := 4) rfl ?_); refine box_event ?hg (N := 4) ?hd (cs := #[.int .i64 0, .int .i64 0, .int .i64 0]) (t := 70) ?hr ?_; (case hd => rfl); (case hg => rfl); (case hr => first | (go_simp; done) | (go_simp; rfl)); intro gb hgb w2 hbox hb; have HBX := Aside0.mk hbox; have HL2 := Aside0.mk (blk_below HL1.out hb); have HO2 := Aside0.mk (Kd.R_below HO1.out hb); have HB2 := Aside0.mk (below_step HB1.out hb); have HGB := Aside0.mk (show w0.heap.size ≤ gb from by rw [hgb]; exact below_size HB1.out); have HGN := Aside0.mk (show G ≠ gb ∧ (∀ k, k < w1.heap.size → k ≠ gb) from ⟨by rw [hgb]; have := blk_lt HL1.out; omega, fun k hk => by omega⟩); have hz0 : w2.cell? ⟨gb, 0, none⟩ = some (.int .i64 0) := (blk_cell hbox 0).trans rfl; have hz1 : w2.cell? ⟨gb, 1, none⟩ = some (.int .i64 0) := (blk_cell hbox 1).trans rfl; have hz2 : w2.cell? ⟨gb, 2, none⟩ = some (.int .i64 0) := (blk_cell hbox 2).trans rfl; have hf0 := blk_frozen hbox 0; have hf1 := blk_frozen hbox 1; have hf2 := blk_frozen hbox 2; have HO2' := Aside0.mk (Kd.R_elderB HO1.out gb (Nat.le_of_eq hgb.symm)); have HO2 := Aside0.mk (Kd.R_below HO2'.out hb); clear hbox hb hgb) | ((with_reducible refine gate_store (t := 70) (p := 4) rfl ?_); refine store_event (t := 70) (p := 4) (v := ?vo) (w1 := (((w2.setCell ⟨gb, 0, none⟩ (.int .i64 m.f0)).setCell ⟨gb, 1, none⟩ (.int .i64 m.f1)).setCell ⟨gb, 2, none⟩ (.int .i64 m.f2))) ?hg ?ho ?hn ?hr ?_; (case ho => rfl); (case hg => rfl); (case hn => rfl); (case hr => first | (go_simp; done) | (go_simp; rfl)); intro w3 hw; have HX3 := Aside0.mk (show w3.heap[gb]? = some (.cells #[.int .i64 m.f0, .int .i64 m.f1, .int .i64 m.f2] 70 (0, 0)) from by rw [hw]; exact blk_put (blk_put (blk_put HBX.out 0 _ rfl) 1 _ rfl) 2 _ rfl); have HB3 := Aside0.mk (show Below w0.heap.size w0 w3 from by rw [hw]; exact below_set (below_set (below_set HB2.out HGB.out) HGB.out) HGB.out); have HL3 := Aside0.mk (show w3.heap[G]? = some (.cells #[a, b, .slice (some ⟨g, 0, none⟩) l.length cap] 91 (0, 0)) from by rw [hw]; exact blk_far (blk_far (blk_far HL2.out HGN.out.1 _) HGN.out.1 _) HGN.out.1 _); have HO3 := Aside0.mk (show Kd.R k70 70 w3 w0.heap.size (fun _ => True) (.slice (some ⟨g, 0, none⟩) l.length cap) l from by rw [hw]; exact Kd.R_mono (Kd.R_far (p := ⟨gb, 2, none⟩) (Kd.R_far (p := ⟨gb, 1, none⟩) (Kd.R_far (p := ⟨gb, 0, none⟩) HO2.out (fun _ hk => hk.2) _) (fun _ hk => hk.2) _) (fun _ hk => hk.2) _) (fun _ _ => trivial)); clear hw))
  have HX := Aside0.mk (blk_drew HX3.out)
  have HL := Aside0.mk (blk_drew HL3.out)
  have HB := Aside0.mk (below_drew1 HB3.out)
  have HO := Aside0.mk (Kd.R_drew HO3.out)
  have hp1 : (0 ≤ (i : Int)) = True := eq_true (by omega)
  have hp2 : ((i : Int) < (l.length : Int)) = True := eq_true (by omega)
  refine start_ (n := 17) (S := fun w' => w'.cell? ⟨G, 2, none⟩ = some (.slice (some ⟨g, 0, none⟩) l.length cap) ∧ w'.cell? ⟨gb, 0, none⟩ = some (.int .i64 m.f0) ∧ w'.cell? ⟨gb, 1, none⟩ = some (.int .i64 m.f1)) (ds := [16]) #[false, false, false, false, false, false, false, false, false, false, false, false, false, false, false, false, false] (by kernel_rfl) rfl rfl ⟨(blk_cell HL.out 2).trans rfl, (blk_cell HX.out 0).trans rfl, (blk_cell HX.out 1).trans rfl⟩ (fun hHeld => ?_); refine with_tabW repl69.tab repl69.bits (fun HT_ HW_ => ?_)
  clear HX3 HL3 HB3 HO3
  generalize w3.drew = wd at HX HL HB HO hHeld ⊢
  refine pure_ (i := 0) (N := some 10) (v := ?_) (a' := ?_) #[true, false, false, false, false, false, false, false, false, false, false, false, false, false, false, false, false] rfl rfl (any_of HT_.out (by kernel_rfl)) (fun _ _ _ h => h) (Or.inl ⟨by rfl, ?_⟩) ?_ ?_
  rotate_left
  · intro w'
    go_simp
    with_reducible rfl
  rotate_left
  · simp only [Act.put, List.setIfInBounds_toArray, List.set_cons_zero, List.set_cons_succ, i64_w, i32_w]
    rfl
  refine pure_ (i := 1) (N := some 11) (v := ?_) (a' := ?_) #[true, true, false, false, false, false, false, false, false, false, false, false, false, false, false, false, false] rfl rfl (any_of HT_.out (by kernel_rfl)) (fun _ _ _ h => h) (Or.inl ⟨by rfl, ?_⟩) ?_ ?_
  rotate_left
  · intro w'
    go_simp
    with_reducible rfl
  rotate_left
  · simp only [Act.put, List.setIfInBounds_toArray, List.set_cons_zero, List.set_cons_succ, i64_w, i32_w]
    rfl
  refine pure_ (i := 2) (N := some 12) (v := ?_) (a' := ?_) #[true, true, true, false, false, false, false, false, false, false, false, false, false, false, false, false, false] rfl rfl (any_of HT_.out (by kernel_rfl)) (fun _ _ _ h => h) (Or.inl ⟨by rfl, ?_⟩) ?_ ?_
  rotate_left
  · intro w'
    go_simp
    with_reducible rfl
  rotate_left
  · simp only [Act.put, List.setIfInBounds_toArray, List.set_cons_zero, List.set_cons_succ, i64_w, i32_w]
    rfl
  refine take_ (i := 3) (N := some 13) (v := ?_) (a' := ?_) #[true, true, true, true, false, false, false, false, false, false, false, false, false, false, false, false, false] rfl rfl (take_ofW HT_.out HW_.out (by kernel_rfl)) (fun _ _ _ h => h) (Or.inl ⟨by rfl, ?_⟩) hHeld ?_ ?_
  rotate_left
  · rintro w' ⟨s0, s1, s2⟩
    go_simp
    with_reducible rfl
  rotate_left
  · simp only [Act.put, List.setIfInBounds_toArray, List.set_cons_zero, List.set_cons_succ, i64_w, i32_w]
    rfl
  refine pure_ (i := 4) (N := some 14) (v := ?_) (a' := ?_) #[true, true, true, true, true, false, false, false, false, false, false, false, false, false, false, false, false] rfl rfl (any_of HT_.out (by kernel_rfl)) (fun _ _ _ h => h) (Or.inl ⟨by rfl, ?_⟩) ?_ ?_
  rotate_left
  · intro w'
    go_simp
    with_reducible rfl
  rotate_left
  · simp only [Act.put, List.setIfInBounds_toArray, List.set_cons_zero, List.set_cons_succ, i64_w, i32_w]
    rfl
  refine pure_ (i := 5) (N := some 15) (v := ?_) (a' := ?_) #[true, true, true, true, true, true, false, false, false, false, false, false, false, false, false, false, false] rfl rfl (any_of HT_.out (by kernel_rfl)) (fun _ _ _ h => h) (Or.inl ⟨by rfl, ?_⟩) ?_ ?_
  rotate_left
  · intro w'
    go_simp
    with_reducible rfl
  rotate_left
  · simp only [Act.put, List.setIfInBounds_toArray, List.set_cons_zero, List.set_cons_succ, i64_w, i32_w]
    rfl
  refine take_ (i := 6) (N := some 16) (v := ?_) (a' := ?_) #[true, true, true, true, true, true, true, false, false, false, false, false, false, false, false, false, false] rfl rfl (take_ofW HT_.out HW_.out (by kernel_rfl)) (fun _ _ _ h => h) (Or.inl ⟨by rfl, ?_⟩) hHeld ?_ ?_
  rotate_left
  · rintro w' ⟨s0, s1, s2⟩
    go_simp
    with_reducible rfl
  rotate_left
  · simp only [Act.put, List.setIfInBounds_toArray, List.set_cons_zero, List.set_cons_succ, i64_w, i32_w]
    rfl
  refine pure_ (i := 8) (N := some 18) (v := ?_) (a' := ?_) #[true, true, true, true, true, true, true, false, true, false, false, false, false, false, false, false, false] rfl rfl (any_of HT_.out (by kernel_rfl)) (fun _ _ _ h => h) (Or.inl ⟨by rfl, ?_⟩) ?_ ?_
  rotate_left
  · intro w'
    go_simp
    with_reducible rfl
  rotate_left
  · simp only [Act.put, List.setIfInBounds_toArray, List.set_cons_zero, List.set_cons_succ, i64_w, i32_w]
    rfl
  refine pure_ (i := 9) (N := some 19) (v := ?_) (a' := ?_) #[true, true, true, true, true, true, true, false, true, true, false, false, false, false, false, false, false] rfl rfl (any_of HT_.out (by kernel_rfl)) (fun _ _ _ h => h) (Or.inl ⟨by rfl, ?_⟩) ?_ ?_
  rotate_left
  · intro w'
    go_simp
    with_reducible rfl
  rotate_left
  · simp only [Act.put, List.setIfInBounds_toArray, List.set_cons_zero, List.set_cons_succ, i64_w, i32_w]
    rfl
  refine take_ (i := 10) (N := some 20) (v := ?_) (a' := ?_) #[true, true, true, true, true, true, true, false, true, true, true, false, false, false, false, false, false] rfl rfl (take_ofW HT_.out HW_.out (by kernel_rfl)) (fun _ _ _ h => h) (Or.inl ⟨by rfl, ?_⟩) hHeld ?_ ?_
  rotate_left
  · rintro w' ⟨s0, s1, s2⟩
    go_simp
    with_reducible rfl
  rotate_left
  · simp only [Act.put, List.setIfInBounds_toArray, List.set_cons_zero, List.set_cons_succ, i64_w, i32_w]
    rfl
  refine pure_ (i := 11) (N := some 21) (v := ?_) (a' := ?_) #[true, true, true, true, true, true, true, false, true, true, true, true, false, false, false, false, false] rfl rfl (any_of HT_.out (by kernel_rfl)) (fun _ _ _ h => h) (Or.inl ⟨by rfl, ?_⟩) ?_ ?_
  rotate_left
  · intro w'
    go_simp
    with_reducible rfl
  rotate_left
  · simp only [Act.put, List.setIfInBounds_toArray, List.set_cons_zero, List.set_cons_succ, i64_w, i32_w]
    rfl
  refine pure_ (i := 12) (N := some 22) (v := ?_) (a' := ?_) #[true, true, true, true, true, true, true, false, true, true, true, true, true, false, false, false, false] rfl rfl (any_of HT_.out (by kernel_rfl)) (fun _ _ _ h => h) (Or.inl ⟨by rfl, ?_⟩) ?_ ?_
  rotate_left
  · intro w'
    go_simp
    with_reducible rfl
  rotate_left
  · simp only [Act.put, List.setIfInBounds_toArray, List.set_cons_zero, List.set_cons_succ, i64_w, i32_w]
    rfl
  refine take_ (i := 13) (N := some 23) (v := ?_) (a' := ?_) #[true, true, true, true, true, true, true, false, true, true, true, true, true, true, false, false, false] rfl rfl (take_ofW HT_.out HW_.out (by kernel_rfl)) (fun _ _ _ h => h) (Or.inl ⟨by rfl, ?_⟩) hHeld ?_ ?_
  rotate_left
  · rintro w' ⟨s0, s1, s2⟩
    go_simp
    with_reducible rfl
  rotate_left
  · simp only [Act.put, List.setIfInBounds_toArray, List.set_cons_zero, List.set_cons_succ, i64_w, i32_w]
    rfl
  refine pure_ (i := 14) (N := some 24) (v := ?_) (a' := ?_) #[true, true, true, true, true, true, true, false, true, true, true, true, true, true, true, false, false] rfl rfl (any_of HT_.out (by kernel_rfl)) (fun _ _ _ h => h) (Or.inl ⟨by rfl, ?_⟩) ?_ ?_
  rotate_left
  · intro w'
    go_simp
    with_reducible rfl
  rotate_left
  · simp only [Act.put, List.setIfInBounds_toArray, List.set_cons_zero, List.set_cons_succ, i64_w, i32_w]
    rfl
  refine one_ (i := 7) (N := some 17) #[true, true, true, true, true, true, true, true, true, true, true, true, true, true, true, false, false] rfl rfl (one_of HT_.out (by kernel_rfl)) (by decide) (fun K hK => ?_)
  refine goes_ Try.func86 (by kernel_rfl) rfl #[.pointer (some ⟨G, 0, none⟩), .int .i64 m.f0] (by rfl) rfl rfl (by (try simp only [List.map_toArray, List.map_cons, List.map_nil]); first | done | rfl) ?_
  refine (at_calls G a b (some ⟨g, 0, none⟩) cap l m.f0 _ HL.out (Kd.R_reads' HO.out).2.2 (Kd.R_reads' HO.out).2.1).mono ?_
  rintro e w4 ⟨rfl, hb⟩
  rw [HIX.out]
  refine ⟨_, rfl, ?_⟩
  have HL4 := Aside0.mk (blk_below HL.out hb)
  have HX4 := Aside0.mk (blk_below HX.out hb)
  have HB4 := Aside0.mk (below_step HB.out hb)
  have HO4 := Aside0.mk (Kd.R_below HO.out hb)
  clear hb
  refine hK.out _ _ ⟨(blk_cell HL4.out 2).trans rfl, (blk_cell HX4.out 0).trans rfl, (blk_cell HX4.out 1).trans rfl⟩ (fun hHeld => ?_)
  clear hK K
  refine norm_ (a' := ?_) ?_ ?_
  rotate_left
  · show Act.put _ (some 17) _ = _
    simp only [Act.put, List.setIfInBounds_toArray, List.set_cons_zero, List.set_cons_succ, i64_w, i32_w]
    rfl
  refine pure_ (i := 15) (N := some 25) (v := ?_) (a' := ?_) #[true, true, true, true, true, true, true, true, true, true, true, true, true, true, true, true, false] rfl rfl (any_of HT_.out (by kernel_rfl)) (fun _ _ _ h => h) (Or.inl ⟨by rfl, ?_⟩) ?_ ?_
  rotate_left
  · intro w'
    go_simp
    with_reducible rfl
  rotate_left
  · simp only [Act.put, List.setIfInBounds_toArray, List.set_cons_zero, List.set_cons_succ, i64_w, i32_w]
    rfl
  obtain ⟨ci, hcl3, hM3, hcc3, hfr3⟩ := Kd.R_elem HO4.out z70 (i : Int) (by omega) (by omega)
  obtain rfl := k70_openM hM3
  rw [Int.toNat_natCast] at hcc3 hfr3
  have y0 := hcc3 0 _ rfl
  have y1 := hcc3 1 _ rfl
  have y2 := hcc3 2 _ rfl
  have f0 := hfr3 0
  have f1 := hfr3 1
  have f2 := hfr3 2
  simp only [show (k70).sz = 3 from rfl, Nat.add_zero] at y0 y1 y2 f0 f1 f2
  have HP3 := Kd.R_seg HO4.out (i : Int) (by omega) (by omega) (seg := [.int .i64 x, .int .i64 (m.f1 + 1), .int .i64 m.f1]) (j := 0) hcl3 (by rw [Int.toNat_natCast]; exact hcc3) (show 3 ≤ 3 from by decide) (x' := ⟨x, m.f1 + 1, m.f1⟩) (k70_mkM _ _ _ ⟨x, m.f1 + 1, m.f1⟩) (fun _ hk => hk)
  rw [Int.toNat_natCast] at HP3
  clear hcl3 hM3 hcc3 hfr3
  refine last_ (i := 16) (N := none) #[true, true, true, true, true, true, true, true, true, true, true, true, true, true, true, true, true] rfl rfl (one_of HT_.out (by kernel_rfl)) (by decide) (fun K hK => ?_)
  refine store_step_ (w1 := ((w4.setCell ⟨g, i * 3, none⟩ (.int .i64 x)).setCell ⟨g, i * 3 + 1, none⟩ (.int .i64 (m.f1 + 1))).setCell ⟨g, i * 3 + 2, none⟩ (.int .i64 m.f1)) (by rfl) (by go_simp; rw [show wrap64 (m.f1 + 1) = m.f1 + 1 from wr64 (by omega) (by omega)]) ?_
  refine hK.out _ _ ?_
  clear hK K
  refine done_ (done_of HT_.out (by kernel_rfl)) ?_
  go_end0
  refine ⟨rfl, _, blk_far (blk_far (blk_far HL4.out (fun e => HGG.out e.symm) _) (fun e => HGG.out e.symm) _) (fun e => HGG.out e.symm) _, ?_, below_set (below_set (below_set HB4.out HG0.out) HG0.out) HG0.out⟩
  rw [← HST.out]
  exact HP3.1
end Go.Proofs.Ytdffhffhnjkcpaa.X
