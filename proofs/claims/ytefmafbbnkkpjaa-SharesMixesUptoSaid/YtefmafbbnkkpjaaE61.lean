/- The walk of the reference's falling: each number is put behind those that are not less. -/
import Derived.Test.YtefmafbbnkkpjaaX0
import Derived.Laws.Rows
import Derived.Lib.Hide
namespace Go.Proofs.Ytefmafbbnkkpjaa.X
open Go.RowKit Go.Proofs.YtefmafbbnkkpjaaW.PrintWords Go.Proofs.YtefmafbbnkkpjaaW.PrintLast Go.Proofs.YtefmafbbnkkpjaaW.PrintMore
set_option linter.unusedVariables false
set_option linter.unusedSimpArgs false

/-- How many of the first numbers are not less than x. -/
def insAt (x : Int) : List Int → Nat
  | [] => 0
  | y :: l => if x ≤ y then insAt x l + 1 else 0
def ins (l : List Int) (x : Int) : List Int := (l.take (insAt x l) ++ [x]) ++ l.drop (insAt x l)
theorem insAt_le (x : Int) : ∀ l, insAt x l ≤ l.length
  | [] => Nat.le_refl _
  | y :: l => by
    unfold insAt
    have := insAt_le x l
    split <;> simp only [List.length_cons] <;> omega
theorem insAt_lt (x : Int) : ∀ (l : List Int) (j : Nat) (h : j < insAt x l), x ≤ rd l (j : Int)
  | [], j, h => by simp [insAt] at h
  | y :: l, j, h => by
    unfold insAt at h
    by_cases c : x ≤ y
    · rw [if_pos c] at h
      cases j with
      | zero => simpa [rd] using c
      | succ j =>
        have := insAt_lt x l j (by omega)
        simpa [rd] using this
    · rw [if_neg c] at h
      omega
theorem insAt_at (x : Int) : ∀ (l : List Int), insAt x l < l.length → rd l (insAt x l : Int) < x
  | [], h => by simp [insAt] at h
  | y :: l, h => by
    by_cases c : x ≤ y
    · have e : insAt x (y :: l) = insAt x l + 1 := by rw [insAt, if_pos c]
      rw [e] at h ⊢
      have := insAt_at x l (by simpa using h)
      simpa [rd] using this
    · have e : insAt x (y :: l) = 0 := by rw [insAt, if_neg c]
      rw [e]
      simp [rd]
      omega
theorem insAt_eq (x : Int) (l : List Int) (j : Nat) (hj : j ≤ l.length) (h1 : ∀ i, i < j → x ≤ rd l (i : Int)) (h2 : j < l.length → rd l (j : Int) < x) : insAt x l = j := by
  rcases Nat.lt_trichotomy (insAt x l) j with h | h | h
  · have a := insAt_at x l (by omega)
    have b := h1 _ h
    omega
  · exact h
  · have a := insAt_lt x l j h
    have b := h2 (by have := insAt_le x l; omega)
    omega
theorem ins_length (l : List Int) (x : Int) : (ins l x).length = l.length + 1 := by
  have := insAt_le x l
  simp [ins]
  omega
def insAll (l : List Int) : List Int := l.foldl ins []
theorem foldl_length : ∀ (l a : List Int), (l.foldl ins a).length = a.length + l.length
  | [], a => by simp
  | x :: l, a => by
    simp only [List.foldl_cons, List.length_cons]
    rw [foldl_length l, ins_length]
    omega
theorem insAll_take_succ (l : List Int) (k : Nat) (h : k < l.length) : insAll (l.take (k + 1)) = ins (insAll (l.take k)) (rd l (k : Int)) := by
  unfold insAll
  rw [List.take_succ_eq_append_getElem h, List.foldl_append]
  simp [rd, List.getD_eq_getElem?_getD, List.getElem?_eq_getElem h]
def xRFalling.f (l : List Int) : Option (List Int) := if l.length ≤ 40 then some (insAll l) else none

def xRFalling.T8 : Bool × List (List Nat × List Nat) := (true, [([], []), ([], []), ([], []), ([1, 2], [1, 2]), ([0, 3], [0, 3]), ([], []), ([5], [5]), ([4, 6, 4], [4, 6]), ([], []), ([], []), ([8, 9], [8, 9]), ([7, 10, 7], [7, 10]), ([11, 11, 0, 1, 2, 3, 4, 5, 6, 7, 8, 9, 10, 11], [1, 8, 11])])
def xRFalling.B8 : List Nat := [0, 0, 0, 6, 15, 0, 32, 127, 0, 0, 768, 2047, 4095]
theorem xRFalling.tab8 : rtab .any (opsOf Try.f61 8) = xRFalling.T8 := by kernel_rfl
theorem xRFalling.bits8 : waitsOk xRFalling.T8.2 xRFalling.B8 = true := by kernel_rfl
set_option maxHeartbeats 8000000 in
set_option maxRecDepth 100000 in
theorem xRFalling.calls (A0 : Option Addr) (c0 : Nat) (l0 : List Int) (r : List Int) (w : World) (hr0 : Kd.C (Kd.int .i64) w A0 l0.length l0) (hc0 : l0.length ≤ c0) (h : xRFalling.f l0 = some r) :
    Calls Try.prog 61 #[.slice A0 l0.length c0] w fun e w' => ∃ v0_ : Value, e = .returned v0_ ∧ Kd.R (Kd.int .i64) 3 w' w.heap.size (fun _ => True) v0_ r ∧ Below w.heap.size w w' := by
  unfold xRFalling.f at h
  obtain ⟨h40, hr⟩ : l0.length ≤ 40 ∧ insAll l0 = r := by
    split at h
    · rename_i hh
      exact ⟨hh, Option.some.inj h⟩
    · cases h
  have HRES := Aside0.mk hr
  have HR0 := Aside0.mk hr0
  have HC0 := Aside0.mk hc0
  clear hr hr0 hc0 h
  go_enter Try.func61, Try.ntmps61
  go_wp2
  go_loopw [3, 9] (fun v3 v9 wr => ∃ k : Nat, k ≤ l0.length ∧ v9 = .int .i64 k ∧ Aside0 (Kd.R (Kd.int .i64) 3 wr w.heap.size (fun _ => True) v3 (insAll (l0.take k))) ∧ Aside0 (Below w.heap.size w wr)) (fun _ v9 _ => l0.length - (intOf v9).toNat)
  case atStart => exact ⟨0, Nat.zero_le _, rfl, ⟨Kd.R_nil _ _ _ _ _⟩, ⟨Below.refl _ _⟩⟩
  case round =>
    obtain ⟨k, hk, rfl, HV, HW⟩ := hrel
    by_cases hlt : k < l0.length
    · have hts := Aside0.mk (insAll_take_succ l0 k hlt)
      obtain ⟨ad, e, hcell⟩ := Kd.at_int HR0.out (k : Int) (by omega) (by omega)
      cases e
      rw [Int.toNat_natCast] at hcell
      have hcell2 := pw_cell_below HW.out hcell
      clear hcell
      generalize rd l0 (k : Int) = x at *
      have hxl := foldl_length (l0.take k) []
      generalize hxs : insAll (l0.take k) = xs at *
      have hxs2 : xs.length = k := by rw [← hxs, insAll, hxl, List.length_take]; simp; omega
      clear hxs hxl
      have HX2 := Aside0.mk hxs2
      clear hxs2
      obtain ⟨A, c, ev⟩ := Kd.R_slice HV.out
      subst ev
      have hkd : decide ((k : Int) < (l0.length : Int)) = true := decide_eq_true (by omega)
      have hkd2 : decide (k < l0.length) = true := decide_eq_true hlt
      go_wp2
      go_loopw [6] (fun v6 w_ => ∃ j : Nat, j ≤ xs.length ∧ v6 = .int .i64 j ∧ Aside0 (∀ i : Nat, i < j → x ≤ rd xs (i : Int)) ∧ w_ = wr) (fun v6 _ => xs.length - (intOf v6).toNat)
      case atStart => exact ⟨0, Nat.zero_le _, rfl, ⟨fun i h => by omega⟩, rfl⟩
      case round =>
        obtain ⟨j, hj, rfl, HJ, rfl⟩ := hrel
        have HVr := Aside0.mk (Kd.R_reads' HV.out)
        by_cases hjl : j < xs.length
        · obtain ⟨adv, e, hcv⟩ := Kd.at_int HVr.out.2.2 (j : Int) (by omega) (by omega)
          cases e
          rw [Int.toNat_natCast] at hcv
          have d1 : decide ((j : Int) < (xs.length : Int)) = true := decide_eq_true (by omega)
          have d2 : decide (j < xs.length) = true := decide_eq_true hjl
          by_cases hxx : x ≤ rd xs (j : Int)
          · have d3 : decide (x ≤ rd xs (j : Int)) = true := decide_eq_true hxx
            have HJL := Aside0.mk hjl
            have HWJ := Aside0.mk (show wrap64 ((j : Int) + 1) = ((j + 1 : Nat) : Int) by have := HX2.out; unfold wrap64; omega)
            have HJ2 := Aside0.mk (show ∀ i : Nat, i < j + 1 → x ≤ rd xs (i : Int) from fun i hi => by
              rcases Nat.lt_succ_iff_lt_or_eq.mp hi with h | h
              · exact HJ.out i h
              · rw [h]; exact hxx)
            generalize rd xs (j : Int) = y at hcv d3
            go_wp2
            rw [HWJ.out]
            go_roundw
            case rel => exact ⟨j + 1, HJL.out, rfl, HJ2, trivial⟩
            case measure => have := HJL.out; simp [intOf]; omega
          · have d3 : decide (x ≤ rd xs (j : Int)) = false := decide_eq_false hxx
            have HI := Aside0.mk (insAt_eq x xs j hj HJ.out (fun _ => by omega))
            generalize rd xs (j : Int) = y at hcv d3
            clear hxx
            obtain ⟨ji, hji⟩ : ∃ J : Int, (j : Int) = J := ⟨_, rfl⟩
            have hjn := Aside0.mk (show ji.toNat = j by omega)
            rw [hji]
            rw [hji] at d1
            have c9b0 := eq_true (show 0 ≤ ji by omega)
            have c9b1 : decide (0 ≤ ji) = true := decide_eq_true (by omega)
            have c10b0 := eq_true (show ji ≤ (xs.length : Int) by omega)
            have c11b0 := eq_true (show ji ≤ (c : Int) by have := HVr.out.2.1; omega)
            have c10b1 : decide (ji ≤ (xs.length : Int)) = true := decide_eq_true (by omega)
            rw [← hjn.out] at hcv
            go_wp2
            have HW1 := Aside0.mk (below_drew1 HW.out)
            have HV1 := Aside0.mk (Kd.R_drew HV.out)
            have HLj := Aside0.mk (show xs.length < 41 ∧ ji.toNat ≤ xs.length from ⟨by have := HX2.out; omega, by have := hjn.out; omega⟩)
            obtain ⟨i019, hi019, _, hsz19, _⟩ := info_parts info3
            obtain ⟨hcut19, hA19, hC19⟩ := print_take_of (P := Try.prog) (Value.int .i64) 0 22 3 .i64 Try.underlying22 hi019 hsz19 (some adv) c xs ji (by omega) (by omega) HVr.out.2.1
            have HRt := Aside0.mk (Kd.C_of_reads (h1 := fun _ => rfl) (hA19 _ (Kd.reads_of_C (Kd.R_reads' HV1.out).2.2)))
            have HLt : Aside0 ((xs.take ji.toNat).length = ji.toNat) := ⟨by rw [List.length_take]; have := hjn.out; omega⟩
            obtain ⟨i020, hi020, _, hsz20, _⟩ := info_parts info3
            obtain ⟨A20, hcut20, hA20, hC20⟩ := print_drop_of (P := Try.prog) (Value.int .i64) 0 22 3 .i64 Try.underlying22 hi020 hsz20 (some adv) c xs ji (by omega) (by omega) HVr.out.2.1
            have HRd := Aside0.mk (Kd.C_of_reads (h1 := fun _ => rfl) (hA20 _ (Kd.reads_of_C (Kd.R_reads' HV1.out).2.2)))
            have HLd : Aside0 ((xs.drop ji.toNat).length = xs.length - ji.toNat) := ⟨by rw [List.length_drop]⟩
            clear hA19 hA20 hi019 hi020 hsz19 hsz20 HV HVr HW
            refine start_ (n := 13) (S := fun w' => True) (ds := []) #[false, false, false, false, false, false, false, false, false, false, false, false, false] (by kernel_rfl) rfl rfl trivial (fun hHeld => ?_); refine with_tabW xRFalling.tab8 xRFalling.bits8 (fun HT_ HW_ => ?_)
            generalize wr.drew = W1 at HW1 HV1 HRt HRd hHeld ⊢
            have HB := Aside0.mk (Below.refl W1.heap.size W1)
            refine pure_ (i := 1) (N := some 28) (v := ?_) (a' := ?_) #[false, true, false, false, false, false, false, false, false, false, false, false, false] rfl rfl (any_of HT_.out (by kernel_rfl)) (fun _ _ _ h => h) (Or.inl ⟨by rfl, ?_⟩) ?_ ?_
            rotate_left
            · intro w'
              go_simp
              with_reducible rfl
            rotate_left
            · simp only [Act.put, List.setIfInBounds_toArray, List.set_cons_zero, List.set_cons_succ, i64_w, i32_w]
              rfl
            refine pure_ (i := 2) (N := some 29) (v := ?_) (a' := ?_) #[false, true, true, false, false, false, false, false, false, false, false, false, false] rfl rfl (any_of HT_.out (by kernel_rfl)) (fun _ _ _ h => h) (Or.inl ⟨by rfl, ?_⟩) ?_ ?_
            rotate_left
            · intro w'
              go_simp
              with_reducible rfl
            rotate_left
            · simp only [Act.put, List.setIfInBounds_toArray, List.set_cons_zero, List.set_cons_succ, i64_w, i32_w]
              rfl
            refine pure_ (i := 3) (N := some 30) (v := ?_) (a' := ?_) #[false, true, true, true, false, false, false, false, false, false, false, false, false] rfl rfl (any_of HT_.out (by kernel_rfl)) (fun _ _ _ h => h) (Or.inl ⟨by rfl, ?_⟩) ?_ ?_
            rotate_left
            · intro w'
              go_simp
              with_reducible rfl
            rotate_left
            · simp only [Act.put, List.setIfInBounds_toArray, List.set_cons_zero, List.set_cons_succ, i64_w, i32_w]
              rfl
            refine pure_ (i := 5) (N := some 32) (v := ?_) (a' := ?_) #[false, true, true, true, false, true, false, false, false, false, false, false, false] rfl rfl (any_of HT_.out (by kernel_rfl)) (fun _ _ _ h => h) (Or.inl ⟨by rfl, ?_⟩) ?_ ?_
            rotate_left
            · intro w'
              go_simp
              with_reducible rfl
            rotate_left
            · simp only [Act.put, List.setIfInBounds_toArray, List.set_cons_zero, List.set_cons_succ, i64_w, i32_w]
              rfl
            refine pure_ (i := 8) (N := some 35) (v := ?_) (a' := ?_) #[false, true, true, true, false, true, false, false, true, false, false, false, false] rfl rfl (any_of HT_.out (by kernel_rfl)) (fun _ _ _ h => h) (Or.inl ⟨by rfl, ?_⟩) ?_ ?_
            rotate_left
            · intro w'
              go_simp
              with_reducible rfl
            rotate_left
            · simp only [Act.put, List.setIfInBounds_toArray, List.set_cons_zero, List.set_cons_succ, i64_w, i32_w]
              rfl
            refine pure_ (i := 9) (N := some 36) (v := ?_) (a' := ?_) #[false, true, true, true, false, true, false, false, true, true, false, false, false] rfl rfl (any_of HT_.out (by kernel_rfl)) (fun _ _ _ h => h) (Or.inl ⟨by rfl, ?_⟩) ?_ ?_
            rotate_left
            · intro w'
              go_simp
              with_reducible rfl
            rotate_left
            · simp only [Act.put, List.setIfInBounds_toArray, List.set_cons_zero, List.set_cons_succ, i64_w, i32_w]
              rfl
            refine pure_ (i := 10) (N := some 37) (v := ?_) (a' := ?_) #[false, true, true, true, false, true, false, false, true, true, true, false, false] rfl rfl (any_of HT_.out (by kernel_rfl)) (fun _ _ _ h => h) (Or.inl ⟨by rfl, ?_⟩) ?_ ?_
            rotate_left
            · intro w'
              go_simp
              with_reducible rfl
            rotate_left
            · simp only [Act.put, List.setIfInBounds_toArray, List.set_cons_zero, List.set_cons_succ, i64_w, i32_w]
              rfl
            refine two_ (i := 0) (j := 6) (Ni := some 27) (Nj := some 33) #[true, true, true, true, false, true, false, false, true, true, true, false, false] #[false, true, true, true, false, true, true, false, true, true, true, false, false] rfl rfl rfl rfl (two_of HT_.out (by kernel_rfl)) (by decide) (by decide) (fun K hK => ?_) (fun K hK => ?_)
            · refine Kd.R_lit_step (Kd.int .i64) _ 3 ?hg (N := 27) ?hd (xs := ([] : List Int)) (inner := []) (ok := fun _ => True) (okp := fun _ => True) ?hr ?hp (fun _ hk => hk) trivial (Below.refl _ _) (Nat.le_refl _) (by simp) ?_; (case hd => rfl); (case hg => rfl); (case hr => first | (go_simp; done) | (go_simp; rfl)); (case hp => exact (Reps.none _ _))
              intro va wa ho hb hg_ hnew_
              have n0_ := Aside0.mk (Kd.R_lower ho (below_size HB.out))
              have n1_ := Aside0.mk (below_step HB.out hb)
              clear HB
              have HO := n0_
              have HB := n1_
              clear n0_ n1_ hb ho hg_ hnew_
              refine hK.out _ _ trivial (fun hHeld => ?_)
              clear hK K
              refine norm_ (a' := ?_) ?_ ?_
              rotate_left
              · show Act.put _ (some 27) _ = _
                simp only [Act.put, List.setIfInBounds_toArray, List.set_cons_zero, List.set_cons_succ, i64_w, i32_w]
                rfl
              refine two_ (i := 4) (j := 6) (Ni := some 31) (Nj := some 33) #[true, true, true, true, true, true, false, false, true, true, true, false, false] #[true, true, true, true, false, true, true, false, true, true, true, false, false] rfl rfl rfl rfl (two_of HT_.out (by kernel_rfl)) (by decide) (by decide) (fun K hK => ?_) (fun K hK => ?_)
              · refine Kd.R_append_rows_step (Kd.int .i64) (w0 := W1) W1.heap.size (by rfl) (.tmp 27) (.tmp 30) 22 3 (.int .i64 0) 8 rfl Try.underlying22 info3 rfl (by decide) (by omega) va ([]) (xs.take ji.toNat) _ _ _ (fun _ => True) (fun _ => False) rfl rfl ?aO ?aR (fun _ _ h => h) (fun _ h => h.elim) ?aF ?aB ?aS ?aL ?_
                (case aR => have hT_ := Kd.C_below HRt.out HB.out; rw [HLt.out] at hT_; exact hT_)
                (case aB => exact HB.out)
                (case aF => exact (fun _ _ => trivial))
                (case aO => exact HO.out)
                (case aS => exact (below_size HB.out))
                (case aL => have := HLj.out; simp only [List.length_nil]; omega)
                intro vb w_vb ho hb hg hat
                have n0_ := Aside0.mk (hb)
                have n1_ := Aside0.mk (ho)
                clear HB HO
                have HB := n0_
                have HO := n1_
                clear n0_ n1_
                clear ho hb hg hat
                refine hK.out _ _ trivial (fun hHeld => ?_)
                clear hK K
                refine norm_ (a' := ?_) ?_ ?_
                rotate_left
                · show Act.put _ (some 31) _ = _
                  simp only [Act.put, List.setIfInBounds_toArray, List.set_cons_zero, List.set_cons_succ, i64_w, i32_w]
                  rfl
                refine one_ (i := 6) (N := some 33) #[true, true, true, true, true, true, true, false, true, true, true, false, false] rfl rfl (one_of HT_.out (by kernel_rfl)) (by decide) (fun K hK => ?_)
                refine Kd.R_lit_step (Kd.int .i64) _ 3 ?hg (N := 33) ?hd (xs := ([x] : List Int)) (inner := [.int .i64 x]) (ok := fun k_ => some k_ ≠ vb.ownBlock) (okp := fun _ => False) ?hr ?hp (fun _ hk => hk.elim) ?hf (Below.refl _ _) (Nat.le_refl _) (by simp) ?_; (case hd => rfl); (case hg => rfl); (case hr => first | (go_simp; done) | (go_simp; rfl)); (case hp => exact (Kd.reps_scalar [x]))
                (case hf => intro e_; have := Kd.R_lt HO.out _ e_.symm; omega)
                intro vc wc ho hb hg_ hnew_
                clear hg_ hnew_
                have n1_ := Aside0.mk (below_step HB.out hb)
                have n2_ := Aside0.mk (Kd.R_lower ho (below_size HB.out))
                have n0_ := Aside0.mk (Kd.R_below HO.out hb)
                clear HO
                have HO := n0_
                clear n0_
                clear HB
                have HB := n1_
                obtain ⟨Ac, cc, ec⟩ := Kd.R_slice n2_.out
                subst ec
                have HC := n2_
                clear n1_ n2_ hb ho
                refine hK.out _ _ trivial (fun hHeld => ?_)
                clear hK K
                refine norm_ (a' := ?_) ?_ ?_
                rotate_left
                · show Act.put _ (some 33) _ = _
                  simp only [Act.put, List.setIfInBounds_toArray, List.set_cons_zero, List.set_cons_succ, i64_w, i32_w]
                  rfl
                have HRc := Aside0.mk (Kd.R_reads' HC.out).2.2
                refine one_ (i := 7) (N := some 34) #[true, true, true, true, true, true, true, true, true, true, true, false, false] rfl rfl (one_of HT_.out (by kernel_rfl)) (by decide) (fun K hK => ?_)
                refine Kd.R_append_rows_step (Kd.int .i64) (w0 := W1) W1.heap.size (by rfl) (.tmp 31) (.tmp 33) 22 3 (.int .i64 0) 8 rfl Try.underlying22 info3 rfl (by decide) (by omega) vb ([] ++ xs.take ji.toNat) ([x]) _ _ _ (fun _ => True) (fun _ => False) rfl rfl ?aO ?aR (fun _ _ h => h) (fun _ h => h.elim) ?aF ?aB ?aS ?aL ?_
                (case aR => exact HRc.out)
                (case aB => exact HB.out)
                (case aF => exact (fun _ _ => trivial))
                (case aO => exact HO.out)
                (case aS => exact (below_size HB.out))
                (case aL => have := HLj.out; simp only [List.nil_append, List.length_take, List.length_cons, List.length_nil]; omega)
                intro vd w_vd ho hb hg hat
                have n0_ := Aside0.mk (hb)
                have n1_ := Aside0.mk (ho)
                clear HB HO
                have HB := n0_
                have HO := n1_
                clear n0_ n1_
                clear ho hb hg hat
                refine hK.out _ _ trivial (fun hHeld => ?_)
                clear hK K
                refine norm_ (a' := ?_) ?_ ?_
                rotate_left
                · show Act.put _ (some 34) _ = _
                  simp only [Act.put, List.setIfInBounds_toArray, List.set_cons_zero, List.set_cons_succ, i64_w, i32_w]
                  rfl
                refine one_ (i := 11) (N := some 38) #[true, true, true, true, true, true, true, true, true, true, true, true, false] rfl rfl (one_of HT_.out (by kernel_rfl)) (by decide) (fun K hK => ?_)
                refine Kd.R_append_rows_step (Kd.int .i64) (w0 := W1) W1.heap.size (by rfl) (.tmp 34) (.tmp 37) 22 3 (.int .i64 0) 8 rfl Try.underlying22 info3 rfl (by decide) (by omega) vd (([] ++ xs.take ji.toNat) ++ [x]) (xs.drop ji.toNat) _ _ _ (fun _ => True) (fun _ => False) rfl rfl ?aO ?aR (fun _ _ h => h) (fun _ h => h.elim) ?aF ?aB ?aS ?aL ?_
                (case aR => have hT_ := Kd.C_below HRd.out HB.out; rw [HLd.out] at hT_; exact hT_)
                (case aB => exact HB.out)
                (case aF => exact (fun _ _ => trivial))
                (case aO => exact HO.out)
                (case aS => exact (below_size HB.out))
                (case aL => have := HLj.out; simp only [List.nil_append, List.length_append, List.length_take, List.length_cons, List.length_nil]; omega)
                intro ve w_ve ho hb hg hat
                have n0_ := Aside0.mk (hb)
                have n1_ := Aside0.mk (ho)
                clear HB HO
                have HB := n0_
                have HO := n1_
                clear n0_ n1_
                clear ho hb hg hat
                refine hK.out _ _ trivial (fun hHeld => ?_)
                clear hK K
                refine norm_ (a' := ?_) ?_ ?_
                rotate_left
                · show Act.put _ (some 38) _ = _
                  simp only [Act.put, List.setIfInBounds_toArray, List.set_cons_zero, List.set_cons_succ, i64_w, i32_w]
                  rfl
                refine pure_ (i := 12) (N := some 3) (v := ?_) (a' := ?_) #[true, true, true, true, true, true, true, true, true, true, true, true, true] rfl rfl (any_of HT_.out (by kernel_rfl)) (fun _ _ _ h => h) (Or.inl ⟨by rfl, ?_⟩) ?_ ?_
                rotate_left
                · intro w'
                  go_simp
                  with_reducible rfl
                rotate_left
                · simp only [Act.put, List.setIfInBounds_toArray, List.set_cons_zero, List.set_cons_succ, i64_w, i32_w]
                  rfl
                refine done_ (done_of HT_.out (by kernel_rfl)) ?_
                have HOf := Aside0.mk (show Kd.R (Kd.int .i64) 3 w_ve w.heap.size (fun _ => True) ve (insAll (l0.take (k + 1))) from by rw [hts.out]; unfold ins; rw [HI.out, ← hjn.out]; exact Kd.R_lower HO.out HW1.out.size)
                have HBf := Aside0.mk (below_step HW1.out HB.out)
                go_wp2
                go_roundw
                case rel => exact ⟨k + 1, by omega, by go_num, HOf, HBf⟩
                case measure => simp [intOf]; omega
              · refine Kd.R_lit_step (Kd.int .i64) _ 3 ?hg (N := 33) ?hd (xs := ([x] : List Int)) (inner := [.int .i64 x]) (ok := fun k_ => some k_ ≠ va.ownBlock) (okp := fun _ => False) ?hr ?hp (fun _ hk => hk.elim) ?hf (Below.refl _ _) (Nat.le_refl _) (by simp) ?_; (case hd => rfl); (case hg => rfl); (case hr => first | (go_simp; done) | (go_simp; rfl)); (case hp => exact (Kd.reps_scalar [x]))
                (case hf => intro e_; have := Kd.R_lt HO.out _ e_.symm; omega)
                intro vc wc ho hb hg_ hnew_
                clear hg_ hnew_
                have n1_ := Aside0.mk (below_step HB.out hb)
                have n2_ := Aside0.mk (Kd.R_lower ho (below_size HB.out))
                have n0_ := Aside0.mk (Kd.R_below HO.out hb)
                clear HO
                have HO := n0_
                clear n0_
                clear HB
                have HB := n1_
                obtain ⟨Ac, cc, ec⟩ := Kd.R_slice n2_.out
                subst ec
                have HC := n2_
                clear n1_ n2_ hb ho
                refine hK.out _ _ trivial (fun hHeld => ?_)
                clear hK K
                refine norm_ (a' := ?_) ?_ ?_
                rotate_left
                · show Act.put _ (some 33) _ = _
                  simp only [Act.put, List.setIfInBounds_toArray, List.set_cons_zero, List.set_cons_succ, i64_w, i32_w]
                  rfl
                refine one_ (i := 4) (N := some 31) #[true, true, true, true, true, true, true, false, true, true, true, false, false] rfl rfl (one_of HT_.out (by kernel_rfl)) (by decide) (fun K hK => ?_)
                refine Kd.R_append_rows_step (Kd.int .i64) (w0 := W1) W1.heap.size (by rfl) (.tmp 27) (.tmp 30) 22 3 (.int .i64 0) 8 rfl Try.underlying22 info3 rfl (by decide) (by omega) va ([]) (xs.take ji.toNat) _ _ _ (fun _ => True) (fun _ => False) rfl rfl ?aO ?aR (fun _ _ h => h) (fun _ h => h.elim) ?aF ?aB ?aS ?aL ?_
                (case aR => have hT_ := Kd.C_below HRt.out HB.out; rw [HLt.out] at hT_; exact hT_)
                (case aB => exact HB.out)
                (case aF => exact (fun _ _ => trivial))
                (case aO => exact HO.out)
                (case aS => exact (below_size HB.out))
                (case aL => have := HLj.out; simp only [List.length_nil]; omega)
                intro vb w_vb ho hb hg hat
                have n0_ := Aside0.mk (hb)
                have n1_ := Aside0.mk (ho)
                have n2_ := Aside0.mk (Kd.R_grown HC.out hg (fun _ hk_ => hk_))
                clear HC
                have HC := n2_
                clear n2_
                clear HB HO
                have HB := n0_
                have HO := n1_
                clear n0_ n1_
                clear ho hb hg hat
                refine hK.out _ _ trivial (fun hHeld => ?_)
                clear hK K
                refine norm_ (a' := ?_) ?_ ?_
                rotate_left
                · show Act.put _ (some 31) _ = _
                  simp only [Act.put, List.setIfInBounds_toArray, List.set_cons_zero, List.set_cons_succ, i64_w, i32_w]
                  rfl
                have HRc := Aside0.mk (Kd.R_reads' HC.out).2.2
                refine one_ (i := 7) (N := some 34) #[true, true, true, true, true, true, true, true, true, true, true, false, false] rfl rfl (one_of HT_.out (by kernel_rfl)) (by decide) (fun K hK => ?_)
                refine Kd.R_append_rows_step (Kd.int .i64) (w0 := W1) W1.heap.size (by rfl) (.tmp 31) (.tmp 33) 22 3 (.int .i64 0) 8 rfl Try.underlying22 info3 rfl (by decide) (by omega) vb ([] ++ xs.take ji.toNat) ([x]) _ _ _ (fun _ => True) (fun _ => False) rfl rfl ?aO ?aR (fun _ _ h => h) (fun _ h => h.elim) ?aF ?aB ?aS ?aL ?_
                (case aR => exact HRc.out)
                (case aB => exact HB.out)
                (case aF => exact (fun _ _ => trivial))
                (case aO => exact HO.out)
                (case aS => exact (below_size HB.out))
                (case aL => have := HLj.out; simp only [List.nil_append, List.length_take, List.length_cons, List.length_nil]; omega)
                intro vd w_vd ho hb hg hat
                have n0_ := Aside0.mk (hb)
                have n1_ := Aside0.mk (ho)
                clear HB HO
                have HB := n0_
                have HO := n1_
                clear n0_ n1_
                clear ho hb hg hat
                refine hK.out _ _ trivial (fun hHeld => ?_)
                clear hK K
                refine norm_ (a' := ?_) ?_ ?_
                rotate_left
                · show Act.put _ (some 34) _ = _
                  simp only [Act.put, List.setIfInBounds_toArray, List.set_cons_zero, List.set_cons_succ, i64_w, i32_w]
                  rfl
                refine one_ (i := 11) (N := some 38) #[true, true, true, true, true, true, true, true, true, true, true, true, false] rfl rfl (one_of HT_.out (by kernel_rfl)) (by decide) (fun K hK => ?_)
                refine Kd.R_append_rows_step (Kd.int .i64) (w0 := W1) W1.heap.size (by rfl) (.tmp 34) (.tmp 37) 22 3 (.int .i64 0) 8 rfl Try.underlying22 info3 rfl (by decide) (by omega) vd (([] ++ xs.take ji.toNat) ++ [x]) (xs.drop ji.toNat) _ _ _ (fun _ => True) (fun _ => False) rfl rfl ?aO ?aR (fun _ _ h => h) (fun _ h => h.elim) ?aF ?aB ?aS ?aL ?_
                (case aR => have hT_ := Kd.C_below HRd.out HB.out; rw [HLd.out] at hT_; exact hT_)
                (case aB => exact HB.out)
                (case aF => exact (fun _ _ => trivial))
                (case aO => exact HO.out)
                (case aS => exact (below_size HB.out))
                (case aL => have := HLj.out; simp only [List.nil_append, List.length_append, List.length_take, List.length_cons, List.length_nil]; omega)
                intro ve w_ve ho hb hg hat
                have n0_ := Aside0.mk (hb)
                have n1_ := Aside0.mk (ho)
                clear HB HO
                have HB := n0_
                have HO := n1_
                clear n0_ n1_
                clear ho hb hg hat
                refine hK.out _ _ trivial (fun hHeld => ?_)
                clear hK K
                refine norm_ (a' := ?_) ?_ ?_
                rotate_left
                · show Act.put _ (some 38) _ = _
                  simp only [Act.put, List.setIfInBounds_toArray, List.set_cons_zero, List.set_cons_succ, i64_w, i32_w]
                  rfl
                refine pure_ (i := 12) (N := some 3) (v := ?_) (a' := ?_) #[true, true, true, true, true, true, true, true, true, true, true, true, true] rfl rfl (any_of HT_.out (by kernel_rfl)) (fun _ _ _ h => h) (Or.inl ⟨by rfl, ?_⟩) ?_ ?_
                rotate_left
                · intro w'
                  go_simp
                  with_reducible rfl
                rotate_left
                · simp only [Act.put, List.setIfInBounds_toArray, List.set_cons_zero, List.set_cons_succ, i64_w, i32_w]
                  rfl
                refine done_ (done_of HT_.out (by kernel_rfl)) ?_
                have HOf := Aside0.mk (show Kd.R (Kd.int .i64) 3 w_ve w.heap.size (fun _ => True) ve (insAll (l0.take (k + 1))) from by rw [hts.out]; unfold ins; rw [HI.out, ← hjn.out]; exact Kd.R_lower HO.out HW1.out.size)
                have HBf := Aside0.mk (below_step HW1.out HB.out)
                go_wp2
                go_roundw
                case rel => exact ⟨k + 1, by omega, by go_num, HOf, HBf⟩
                case measure => simp [intOf]; omega
            · refine Kd.R_lit_step (Kd.int .i64) _ 3 ?hg (N := 33) ?hd (xs := ([x] : List Int)) (inner := [.int .i64 x]) (ok := fun k_ => True) (okp := fun _ => False) ?hr ?hp (fun _ hk => hk.elim) ?hf (Below.refl _ _) (Nat.le_refl _) (by simp) ?_; (case hd => rfl); (case hg => rfl); (case hr => first | (go_simp; done) | (go_simp; rfl)); (case hp => exact (Kd.reps_scalar [x]))
              (case hf => trivial)
              intro vc wc ho hb hg_ hnew_
              clear hg_ hnew_
              have n1_ := Aside0.mk (below_step HB.out hb)
              have n2_ := Aside0.mk (Kd.R_lower ho (below_size HB.out))
              clear HB
              have HB := n1_
              obtain ⟨Ac, cc, ec⟩ := Kd.R_slice n2_.out
              subst ec
              have HC := n2_
              clear n1_ n2_ hb ho
              refine hK.out _ _ trivial (fun hHeld => ?_)
              clear hK K
              refine norm_ (a' := ?_) ?_ ?_
              rotate_left
              · show Act.put _ (some 33) _ = _
                simp only [Act.put, List.setIfInBounds_toArray, List.set_cons_zero, List.set_cons_succ, i64_w, i32_w]
                rfl
              refine one_ (i := 0) (N := some 27) #[true, true, true, true, false, true, true, false, true, true, true, false, false] rfl rfl (one_of HT_.out (by kernel_rfl)) (by decide) (fun K hK => ?_)
              refine Kd.R_lit_step (Kd.int .i64) _ 3 ?hg (N := 27) ?hd (xs := ([] : List Int)) (inner := []) (ok := fun _ => True) (okp := fun _ => True) ?hr ?hp (fun _ hk => hk) trivial (Below.refl _ _) (Nat.le_refl _) (by simp) ?_; (case hd => rfl); (case hg => rfl); (case hr => first | (go_simp; done) | (go_simp; rfl)); (case hp => exact (Reps.none _ _))
              intro va wa ho hb hg_ hnew_
              have n0_ := Aside0.mk (Kd.R_lower ho (below_size HB.out))
              have n1_ := Aside0.mk (below_step HB.out hb)
              have n2_ := Aside0.mk (Kd.R_mono (Kd.R_bound HC.out) (ok' := fun k_ => some k_ ≠ va.ownBlock) (fun k_ hk_ e_ => by
                obtain ⟨b_, e2_, hb_⟩ := hnew_
                have h3_ := hk_.2.2.1
                rw [e2_] at e_
                cases e_
                omega))
              have n3_ := Aside0.mk (Kd.R_below n2_.out hb)
              clear HC n2_
              have HC := n3_
              clear n3_
              clear HB
              have HO := n0_
              have HB := n1_
              clear n0_ n1_ hb ho hg_ hnew_
              refine hK.out _ _ trivial (fun hHeld => ?_)
              clear hK K
              refine norm_ (a' := ?_) ?_ ?_
              rotate_left
              · show Act.put _ (some 27) _ = _
                simp only [Act.put, List.setIfInBounds_toArray, List.set_cons_zero, List.set_cons_succ, i64_w, i32_w]
                rfl
              refine one_ (i := 4) (N := some 31) #[true, true, true, true, true, true, true, false, true, true, true, false, false] rfl rfl (one_of HT_.out (by kernel_rfl)) (by decide) (fun K hK => ?_)
              refine Kd.R_append_rows_step (Kd.int .i64) (w0 := W1) W1.heap.size (by rfl) (.tmp 27) (.tmp 30) 22 3 (.int .i64 0) 8 rfl Try.underlying22 info3 rfl (by decide) (by omega) va ([]) (xs.take ji.toNat) _ _ _ (fun _ => True) (fun _ => False) rfl rfl ?aO ?aR (fun _ _ h => h) (fun _ h => h.elim) ?aF ?aB ?aS ?aL ?_
              (case aR => have hT_ := Kd.C_below HRt.out HB.out; rw [HLt.out] at hT_; exact hT_)
              (case aB => exact HB.out)
              (case aF => exact (fun _ _ => trivial))
              (case aO => exact HO.out)
              (case aS => exact (below_size HB.out))
              (case aL => have := HLj.out; simp only [List.length_nil]; omega)
              intro vb w_vb ho hb hg hat
              have n0_ := Aside0.mk (hb)
              have n1_ := Aside0.mk (ho)
              have n2_ := Aside0.mk (Kd.R_grown HC.out hg (fun _ hk_ => hk_))
              clear HC
              have HC := n2_
              clear n2_
              clear HB HO
              have HB := n0_
              have HO := n1_
              clear n0_ n1_
              clear ho hb hg hat
              refine hK.out _ _ trivial (fun hHeld => ?_)
              clear hK K
              refine norm_ (a' := ?_) ?_ ?_
              rotate_left
              · show Act.put _ (some 31) _ = _
                simp only [Act.put, List.setIfInBounds_toArray, List.set_cons_zero, List.set_cons_succ, i64_w, i32_w]
                rfl
              have HRc := Aside0.mk (Kd.R_reads' HC.out).2.2
              refine one_ (i := 7) (N := some 34) #[true, true, true, true, true, true, true, true, true, true, true, false, false] rfl rfl (one_of HT_.out (by kernel_rfl)) (by decide) (fun K hK => ?_)
              refine Kd.R_append_rows_step (Kd.int .i64) (w0 := W1) W1.heap.size (by rfl) (.tmp 31) (.tmp 33) 22 3 (.int .i64 0) 8 rfl Try.underlying22 info3 rfl (by decide) (by omega) vb ([] ++ xs.take ji.toNat) ([x]) _ _ _ (fun _ => True) (fun _ => False) rfl rfl ?aO ?aR (fun _ _ h => h) (fun _ h => h.elim) ?aF ?aB ?aS ?aL ?_
              (case aR => exact HRc.out)
              (case aB => exact HB.out)
              (case aF => exact (fun _ _ => trivial))
              (case aO => exact HO.out)
              (case aS => exact (below_size HB.out))
              (case aL => have := HLj.out; simp only [List.nil_append, List.length_take, List.length_cons, List.length_nil]; omega)
              intro vd w_vd ho hb hg hat
              have n0_ := Aside0.mk (hb)
              have n1_ := Aside0.mk (ho)
              clear HB HO
              have HB := n0_
              have HO := n1_
              clear n0_ n1_
              clear ho hb hg hat
              refine hK.out _ _ trivial (fun hHeld => ?_)
              clear hK K
              refine norm_ (a' := ?_) ?_ ?_
              rotate_left
              · show Act.put _ (some 34) _ = _
                simp only [Act.put, List.setIfInBounds_toArray, List.set_cons_zero, List.set_cons_succ, i64_w, i32_w]
                rfl
              refine one_ (i := 11) (N := some 38) #[true, true, true, true, true, true, true, true, true, true, true, true, false] rfl rfl (one_of HT_.out (by kernel_rfl)) (by decide) (fun K hK => ?_)
              refine Kd.R_append_rows_step (Kd.int .i64) (w0 := W1) W1.heap.size (by rfl) (.tmp 34) (.tmp 37) 22 3 (.int .i64 0) 8 rfl Try.underlying22 info3 rfl (by decide) (by omega) vd (([] ++ xs.take ji.toNat) ++ [x]) (xs.drop ji.toNat) _ _ _ (fun _ => True) (fun _ => False) rfl rfl ?aO ?aR (fun _ _ h => h) (fun _ h => h.elim) ?aF ?aB ?aS ?aL ?_
              (case aR => have hT_ := Kd.C_below HRd.out HB.out; rw [HLd.out] at hT_; exact hT_)
              (case aB => exact HB.out)
              (case aF => exact (fun _ _ => trivial))
              (case aO => exact HO.out)
              (case aS => exact (below_size HB.out))
              (case aL => have := HLj.out; simp only [List.nil_append, List.length_append, List.length_take, List.length_cons, List.length_nil]; omega)
              intro ve w_ve ho hb hg hat
              have n0_ := Aside0.mk (hb)
              have n1_ := Aside0.mk (ho)
              clear HB HO
              have HB := n0_
              have HO := n1_
              clear n0_ n1_
              clear ho hb hg hat
              refine hK.out _ _ trivial (fun hHeld => ?_)
              clear hK K
              refine norm_ (a' := ?_) ?_ ?_
              rotate_left
              · show Act.put _ (some 38) _ = _
                simp only [Act.put, List.setIfInBounds_toArray, List.set_cons_zero, List.set_cons_succ, i64_w, i32_w]
                rfl
              refine pure_ (i := 12) (N := some 3) (v := ?_) (a' := ?_) #[true, true, true, true, true, true, true, true, true, true, true, true, true] rfl rfl (any_of HT_.out (by kernel_rfl)) (fun _ _ _ h => h) (Or.inl ⟨by rfl, ?_⟩) ?_ ?_
              rotate_left
              · intro w'
                go_simp
                with_reducible rfl
              rotate_left
              · simp only [Act.put, List.setIfInBounds_toArray, List.set_cons_zero, List.set_cons_succ, i64_w, i32_w]
                rfl
              refine done_ (done_of HT_.out (by kernel_rfl)) ?_
              have HOf := Aside0.mk (show Kd.R (Kd.int .i64) 3 w_ve w.heap.size (fun _ => True) ve (insAll (l0.take (k + 1))) from by rw [hts.out]; unfold ins; rw [HI.out, ← hjn.out]; exact Kd.R_lower HO.out HW1.out.size)
              have HBf := Aside0.mk (below_step HW1.out HB.out)
              go_wp2
              go_roundw
              case rel => exact ⟨k + 1, by omega, by go_num, HOf, HBf⟩
              case measure => simp [intOf]; omega
        · have d1 : decide ((j : Int) < (xs.length : Int)) = false := decide_eq_false (by omega)
          have d2 : decide (j < xs.length) = false := decide_eq_false hjl
          have HI := Aside0.mk (insAt_eq x xs j hj HJ.out (fun h => absurd h hjl))
          obtain ⟨ji, hji⟩ : ∃ J : Int, (j : Int) = J := ⟨_, rfl⟩
          have hjn := Aside0.mk (show ji.toNat = j by omega)
          rw [hji]
          rw [hji] at d1
          have c9b0 := eq_true (show 0 ≤ ji by omega)
          have c9b1 : decide (0 ≤ ji) = true := decide_eq_true (by omega)
          have c10b0 := eq_true (show ji ≤ (xs.length : Int) by omega)
          have c11b0 := eq_true (show ji ≤ (c : Int) by have := HVr.out.2.1; omega)
          have c10b1 : decide (ji ≤ (xs.length : Int)) = true := decide_eq_true (by omega)
          go_wp2
          have HW1 := Aside0.mk (below_drew1 HW.out)
          have HV1 := Aside0.mk (Kd.R_drew HV.out)
          have HLj := Aside0.mk (show xs.length < 41 ∧ ji.toNat ≤ xs.length from ⟨by have := HX2.out; omega, by have := hjn.out; omega⟩)
          obtain ⟨i019, hi019, _, hsz19, _⟩ := info_parts info3
          obtain ⟨hcut19, hA19, hC19⟩ := print_take_of (P := Try.prog) (Value.int .i64) 0 22 3 .i64 Try.underlying22 hi019 hsz19 (A) c xs ji (by omega) (by omega) HVr.out.2.1
          have HRt := Aside0.mk (Kd.C_of_reads (h1 := fun _ => rfl) (hA19 _ (Kd.reads_of_C (Kd.R_reads' HV1.out).2.2)))
          have HLt : Aside0 ((xs.take ji.toNat).length = ji.toNat) := ⟨by rw [List.length_take]; have := hjn.out; omega⟩
          obtain ⟨i020, hi020, _, hsz20, _⟩ := info_parts info3
          obtain ⟨A20, hcut20, hA20, hC20⟩ := print_drop_of (P := Try.prog) (Value.int .i64) 0 22 3 .i64 Try.underlying22 hi020 hsz20 (A) c xs ji (by omega) (by omega) HVr.out.2.1
          have HRd := Aside0.mk (Kd.C_of_reads (h1 := fun _ => rfl) (hA20 _ (Kd.reads_of_C (Kd.R_reads' HV1.out).2.2)))
          have HLd : Aside0 ((xs.drop ji.toNat).length = xs.length - ji.toNat) := ⟨by rw [List.length_drop]⟩
          clear hA19 hA20 hi019 hi020 hsz19 hsz20 HV HVr HW
          refine start_ (n := 13) (S := fun w' => True) (ds := []) #[false, false, false, false, false, false, false, false, false, false, false, false, false] (by kernel_rfl) rfl rfl trivial (fun hHeld => ?_); refine with_tabW xRFalling.tab8 xRFalling.bits8 (fun HT_ HW_ => ?_)
          generalize wr.drew = W1 at HW1 HV1 HRt HRd hHeld ⊢
          have HB := Aside0.mk (Below.refl W1.heap.size W1)
          refine pure_ (i := 1) (N := some 28) (v := ?_) (a' := ?_) #[false, true, false, false, false, false, false, false, false, false, false, false, false] rfl rfl (any_of HT_.out (by kernel_rfl)) (fun _ _ _ h => h) (Or.inl ⟨by rfl, ?_⟩) ?_ ?_
          rotate_left
          · intro w'
            go_simp
            with_reducible rfl
          rotate_left
          · simp only [Act.put, List.setIfInBounds_toArray, List.set_cons_zero, List.set_cons_succ, i64_w, i32_w]
            rfl
          refine pure_ (i := 2) (N := some 29) (v := ?_) (a' := ?_) #[false, true, true, false, false, false, false, false, false, false, false, false, false] rfl rfl (any_of HT_.out (by kernel_rfl)) (fun _ _ _ h => h) (Or.inl ⟨by rfl, ?_⟩) ?_ ?_
          rotate_left
          · intro w'
            go_simp
            with_reducible rfl
          rotate_left
          · simp only [Act.put, List.setIfInBounds_toArray, List.set_cons_zero, List.set_cons_succ, i64_w, i32_w]
            rfl
          refine pure_ (i := 3) (N := some 30) (v := ?_) (a' := ?_) #[false, true, true, true, false, false, false, false, false, false, false, false, false] rfl rfl (any_of HT_.out (by kernel_rfl)) (fun _ _ _ h => h) (Or.inl ⟨by rfl, ?_⟩) ?_ ?_
          rotate_left
          · intro w'
            go_simp
            with_reducible rfl
          rotate_left
          · simp only [Act.put, List.setIfInBounds_toArray, List.set_cons_zero, List.set_cons_succ, i64_w, i32_w]
            rfl
          refine pure_ (i := 5) (N := some 32) (v := ?_) (a' := ?_) #[false, true, true, true, false, true, false, false, false, false, false, false, false] rfl rfl (any_of HT_.out (by kernel_rfl)) (fun _ _ _ h => h) (Or.inl ⟨by rfl, ?_⟩) ?_ ?_
          rotate_left
          · intro w'
            go_simp
            with_reducible rfl
          rotate_left
          · simp only [Act.put, List.setIfInBounds_toArray, List.set_cons_zero, List.set_cons_succ, i64_w, i32_w]
            rfl
          refine pure_ (i := 8) (N := some 35) (v := ?_) (a' := ?_) #[false, true, true, true, false, true, false, false, true, false, false, false, false] rfl rfl (any_of HT_.out (by kernel_rfl)) (fun _ _ _ h => h) (Or.inl ⟨by rfl, ?_⟩) ?_ ?_
          rotate_left
          · intro w'
            go_simp
            with_reducible rfl
          rotate_left
          · simp only [Act.put, List.setIfInBounds_toArray, List.set_cons_zero, List.set_cons_succ, i64_w, i32_w]
            rfl
          refine pure_ (i := 9) (N := some 36) (v := ?_) (a' := ?_) #[false, true, true, true, false, true, false, false, true, true, false, false, false] rfl rfl (any_of HT_.out (by kernel_rfl)) (fun _ _ _ h => h) (Or.inl ⟨by rfl, ?_⟩) ?_ ?_
          rotate_left
          · intro w'
            go_simp
            with_reducible rfl
          rotate_left
          · simp only [Act.put, List.setIfInBounds_toArray, List.set_cons_zero, List.set_cons_succ, i64_w, i32_w]
            rfl
          refine pure_ (i := 10) (N := some 37) (v := ?_) (a' := ?_) #[false, true, true, true, false, true, false, false, true, true, true, false, false] rfl rfl (any_of HT_.out (by kernel_rfl)) (fun _ _ _ h => h) (Or.inl ⟨by rfl, ?_⟩) ?_ ?_
          rotate_left
          · intro w'
            go_simp
            with_reducible rfl
          rotate_left
          · simp only [Act.put, List.setIfInBounds_toArray, List.set_cons_zero, List.set_cons_succ, i64_w, i32_w]
            rfl
          refine two_ (i := 0) (j := 6) (Ni := some 27) (Nj := some 33) #[true, true, true, true, false, true, false, false, true, true, true, false, false] #[false, true, true, true, false, true, true, false, true, true, true, false, false] rfl rfl rfl rfl (two_of HT_.out (by kernel_rfl)) (by decide) (by decide) (fun K hK => ?_) (fun K hK => ?_)
          · refine Kd.R_lit_step (Kd.int .i64) _ 3 ?hg (N := 27) ?hd (xs := ([] : List Int)) (inner := []) (ok := fun _ => True) (okp := fun _ => True) ?hr ?hp (fun _ hk => hk) trivial (Below.refl _ _) (Nat.le_refl _) (by simp) ?_; (case hd => rfl); (case hg => rfl); (case hr => first | (go_simp; done) | (go_simp; rfl)); (case hp => exact (Reps.none _ _))
            intro va wa ho hb hg_ hnew_
            have n0_ := Aside0.mk (Kd.R_lower ho (below_size HB.out))
            have n1_ := Aside0.mk (below_step HB.out hb)
            clear HB
            have HO := n0_
            have HB := n1_
            clear n0_ n1_ hb ho hg_ hnew_
            refine hK.out _ _ trivial (fun hHeld => ?_)
            clear hK K
            refine norm_ (a' := ?_) ?_ ?_
            rotate_left
            · show Act.put _ (some 27) _ = _
              simp only [Act.put, List.setIfInBounds_toArray, List.set_cons_zero, List.set_cons_succ, i64_w, i32_w]
              rfl
            refine two_ (i := 4) (j := 6) (Ni := some 31) (Nj := some 33) #[true, true, true, true, true, true, false, false, true, true, true, false, false] #[true, true, true, true, false, true, true, false, true, true, true, false, false] rfl rfl rfl rfl (two_of HT_.out (by kernel_rfl)) (by decide) (by decide) (fun K hK => ?_) (fun K hK => ?_)
            · refine Kd.R_append_rows_step (Kd.int .i64) (w0 := W1) W1.heap.size (by rfl) (.tmp 27) (.tmp 30) 22 3 (.int .i64 0) 8 rfl Try.underlying22 info3 rfl (by decide) (by omega) va ([]) (xs.take ji.toNat) _ _ _ (fun _ => True) (fun _ => False) rfl rfl ?aO ?aR (fun _ _ h => h) (fun _ h => h.elim) ?aF ?aB ?aS ?aL ?_
              (case aR => have hT_ := Kd.C_below HRt.out HB.out; rw [HLt.out] at hT_; exact hT_)
              (case aB => exact HB.out)
              (case aF => exact (fun _ _ => trivial))
              (case aO => exact HO.out)
              (case aS => exact (below_size HB.out))
              (case aL => have := HLj.out; simp only [List.length_nil]; omega)
              intro vb w_vb ho hb hg hat
              have n0_ := Aside0.mk (hb)
              have n1_ := Aside0.mk (ho)
              clear HB HO
              have HB := n0_
              have HO := n1_
              clear n0_ n1_
              clear ho hb hg hat
              refine hK.out _ _ trivial (fun hHeld => ?_)
              clear hK K
              refine norm_ (a' := ?_) ?_ ?_
              rotate_left
              · show Act.put _ (some 31) _ = _
                simp only [Act.put, List.setIfInBounds_toArray, List.set_cons_zero, List.set_cons_succ, i64_w, i32_w]
                rfl
              refine one_ (i := 6) (N := some 33) #[true, true, true, true, true, true, true, false, true, true, true, false, false] rfl rfl (one_of HT_.out (by kernel_rfl)) (by decide) (fun K hK => ?_)
              refine Kd.R_lit_step (Kd.int .i64) _ 3 ?hg (N := 33) ?hd (xs := ([x] : List Int)) (inner := [.int .i64 x]) (ok := fun k_ => some k_ ≠ vb.ownBlock) (okp := fun _ => False) ?hr ?hp (fun _ hk => hk.elim) ?hf (Below.refl _ _) (Nat.le_refl _) (by simp) ?_; (case hd => rfl); (case hg => rfl); (case hr => first | (go_simp; done) | (go_simp; rfl)); (case hp => exact (Kd.reps_scalar [x]))
              (case hf => intro e_; have := Kd.R_lt HO.out _ e_.symm; omega)
              intro vc wc ho hb hg_ hnew_
              clear hg_ hnew_
              have n1_ := Aside0.mk (below_step HB.out hb)
              have n2_ := Aside0.mk (Kd.R_lower ho (below_size HB.out))
              have n0_ := Aside0.mk (Kd.R_below HO.out hb)
              clear HO
              have HO := n0_
              clear n0_
              clear HB
              have HB := n1_
              obtain ⟨Ac, cc, ec⟩ := Kd.R_slice n2_.out
              subst ec
              have HC := n2_
              clear n1_ n2_ hb ho
              refine hK.out _ _ trivial (fun hHeld => ?_)
              clear hK K
              refine norm_ (a' := ?_) ?_ ?_
              rotate_left
              · show Act.put _ (some 33) _ = _
                simp only [Act.put, List.setIfInBounds_toArray, List.set_cons_zero, List.set_cons_succ, i64_w, i32_w]
                rfl
              have HRc := Aside0.mk (Kd.R_reads' HC.out).2.2
              refine one_ (i := 7) (N := some 34) #[true, true, true, true, true, true, true, true, true, true, true, false, false] rfl rfl (one_of HT_.out (by kernel_rfl)) (by decide) (fun K hK => ?_)
              refine Kd.R_append_rows_step (Kd.int .i64) (w0 := W1) W1.heap.size (by rfl) (.tmp 31) (.tmp 33) 22 3 (.int .i64 0) 8 rfl Try.underlying22 info3 rfl (by decide) (by omega) vb ([] ++ xs.take ji.toNat) ([x]) _ _ _ (fun _ => True) (fun _ => False) rfl rfl ?aO ?aR (fun _ _ h => h) (fun _ h => h.elim) ?aF ?aB ?aS ?aL ?_
              (case aR => exact HRc.out)
              (case aB => exact HB.out)
              (case aF => exact (fun _ _ => trivial))
              (case aO => exact HO.out)
              (case aS => exact (below_size HB.out))
              (case aL => have := HLj.out; simp only [List.nil_append, List.length_take, List.length_cons, List.length_nil]; omega)
              intro vd w_vd ho hb hg hat
              have n0_ := Aside0.mk (hb)
              have n1_ := Aside0.mk (ho)
              clear HB HO
              have HB := n0_
              have HO := n1_
              clear n0_ n1_
              clear ho hb hg hat
              refine hK.out _ _ trivial (fun hHeld => ?_)
              clear hK K
              refine norm_ (a' := ?_) ?_ ?_
              rotate_left
              · show Act.put _ (some 34) _ = _
                simp only [Act.put, List.setIfInBounds_toArray, List.set_cons_zero, List.set_cons_succ, i64_w, i32_w]
                rfl
              refine one_ (i := 11) (N := some 38) #[true, true, true, true, true, true, true, true, true, true, true, true, false] rfl rfl (one_of HT_.out (by kernel_rfl)) (by decide) (fun K hK => ?_)
              refine Kd.R_append_rows_step (Kd.int .i64) (w0 := W1) W1.heap.size (by rfl) (.tmp 34) (.tmp 37) 22 3 (.int .i64 0) 8 rfl Try.underlying22 info3 rfl (by decide) (by omega) vd (([] ++ xs.take ji.toNat) ++ [x]) (xs.drop ji.toNat) _ _ _ (fun _ => True) (fun _ => False) rfl rfl ?aO ?aR (fun _ _ h => h) (fun _ h => h.elim) ?aF ?aB ?aS ?aL ?_
              (case aR => have hT_ := Kd.C_below HRd.out HB.out; rw [HLd.out] at hT_; exact hT_)
              (case aB => exact HB.out)
              (case aF => exact (fun _ _ => trivial))
              (case aO => exact HO.out)
              (case aS => exact (below_size HB.out))
              (case aL => have := HLj.out; simp only [List.nil_append, List.length_append, List.length_take, List.length_cons, List.length_nil]; omega)
              intro ve w_ve ho hb hg hat
              have n0_ := Aside0.mk (hb)
              have n1_ := Aside0.mk (ho)
              clear HB HO
              have HB := n0_
              have HO := n1_
              clear n0_ n1_
              clear ho hb hg hat
              refine hK.out _ _ trivial (fun hHeld => ?_)
              clear hK K
              refine norm_ (a' := ?_) ?_ ?_
              rotate_left
              · show Act.put _ (some 38) _ = _
                simp only [Act.put, List.setIfInBounds_toArray, List.set_cons_zero, List.set_cons_succ, i64_w, i32_w]
                rfl
              refine pure_ (i := 12) (N := some 3) (v := ?_) (a' := ?_) #[true, true, true, true, true, true, true, true, true, true, true, true, true] rfl rfl (any_of HT_.out (by kernel_rfl)) (fun _ _ _ h => h) (Or.inl ⟨by rfl, ?_⟩) ?_ ?_
              rotate_left
              · intro w'
                go_simp
                with_reducible rfl
              rotate_left
              · simp only [Act.put, List.setIfInBounds_toArray, List.set_cons_zero, List.set_cons_succ, i64_w, i32_w]
                rfl
              refine done_ (done_of HT_.out (by kernel_rfl)) ?_
              have HOf := Aside0.mk (show Kd.R (Kd.int .i64) 3 w_ve w.heap.size (fun _ => True) ve (insAll (l0.take (k + 1))) from by rw [hts.out]; unfold ins; rw [HI.out, ← hjn.out]; exact Kd.R_lower HO.out HW1.out.size)
              have HBf := Aside0.mk (below_step HW1.out HB.out)
              go_wp2
              go_roundw
              case rel => exact ⟨k + 1, by omega, by go_num, HOf, HBf⟩
              case measure => simp [intOf]; omega
            · refine Kd.R_lit_step (Kd.int .i64) _ 3 ?hg (N := 33) ?hd (xs := ([x] : List Int)) (inner := [.int .i64 x]) (ok := fun k_ => some k_ ≠ va.ownBlock) (okp := fun _ => False) ?hr ?hp (fun _ hk => hk.elim) ?hf (Below.refl _ _) (Nat.le_refl _) (by simp) ?_; (case hd => rfl); (case hg => rfl); (case hr => first | (go_simp; done) | (go_simp; rfl)); (case hp => exact (Kd.reps_scalar [x]))
              (case hf => intro e_; have := Kd.R_lt HO.out _ e_.symm; omega)
              intro vc wc ho hb hg_ hnew_
              clear hg_ hnew_
              have n1_ := Aside0.mk (below_step HB.out hb)
              have n2_ := Aside0.mk (Kd.R_lower ho (below_size HB.out))
              have n0_ := Aside0.mk (Kd.R_below HO.out hb)
              clear HO
              have HO := n0_
              clear n0_
              clear HB
              have HB := n1_
              obtain ⟨Ac, cc, ec⟩ := Kd.R_slice n2_.out
              subst ec
              have HC := n2_
              clear n1_ n2_ hb ho
              refine hK.out _ _ trivial (fun hHeld => ?_)
              clear hK K
              refine norm_ (a' := ?_) ?_ ?_
              rotate_left
              · show Act.put _ (some 33) _ = _
                simp only [Act.put, List.setIfInBounds_toArray, List.set_cons_zero, List.set_cons_succ, i64_w, i32_w]
                rfl
              refine one_ (i := 4) (N := some 31) #[true, true, true, true, true, true, true, false, true, true, true, false, false] rfl rfl (one_of HT_.out (by kernel_rfl)) (by decide) (fun K hK => ?_)
              refine Kd.R_append_rows_step (Kd.int .i64) (w0 := W1) W1.heap.size (by rfl) (.tmp 27) (.tmp 30) 22 3 (.int .i64 0) 8 rfl Try.underlying22 info3 rfl (by decide) (by omega) va ([]) (xs.take ji.toNat) _ _ _ (fun _ => True) (fun _ => False) rfl rfl ?aO ?aR (fun _ _ h => h) (fun _ h => h.elim) ?aF ?aB ?aS ?aL ?_
              (case aR => have hT_ := Kd.C_below HRt.out HB.out; rw [HLt.out] at hT_; exact hT_)
              (case aB => exact HB.out)
              (case aF => exact (fun _ _ => trivial))
              (case aO => exact HO.out)
              (case aS => exact (below_size HB.out))
              (case aL => have := HLj.out; simp only [List.length_nil]; omega)
              intro vb w_vb ho hb hg hat
              have n0_ := Aside0.mk (hb)
              have n1_ := Aside0.mk (ho)
              have n2_ := Aside0.mk (Kd.R_grown HC.out hg (fun _ hk_ => hk_))
              clear HC
              have HC := n2_
              clear n2_
              clear HB HO
              have HB := n0_
              have HO := n1_
              clear n0_ n1_
              clear ho hb hg hat
              refine hK.out _ _ trivial (fun hHeld => ?_)
              clear hK K
              refine norm_ (a' := ?_) ?_ ?_
              rotate_left
              · show Act.put _ (some 31) _ = _
                simp only [Act.put, List.setIfInBounds_toArray, List.set_cons_zero, List.set_cons_succ, i64_w, i32_w]
                rfl
              have HRc := Aside0.mk (Kd.R_reads' HC.out).2.2
              refine one_ (i := 7) (N := some 34) #[true, true, true, true, true, true, true, true, true, true, true, false, false] rfl rfl (one_of HT_.out (by kernel_rfl)) (by decide) (fun K hK => ?_)
              refine Kd.R_append_rows_step (Kd.int .i64) (w0 := W1) W1.heap.size (by rfl) (.tmp 31) (.tmp 33) 22 3 (.int .i64 0) 8 rfl Try.underlying22 info3 rfl (by decide) (by omega) vb ([] ++ xs.take ji.toNat) ([x]) _ _ _ (fun _ => True) (fun _ => False) rfl rfl ?aO ?aR (fun _ _ h => h) (fun _ h => h.elim) ?aF ?aB ?aS ?aL ?_
              (case aR => exact HRc.out)
              (case aB => exact HB.out)
              (case aF => exact (fun _ _ => trivial))
              (case aO => exact HO.out)
              (case aS => exact (below_size HB.out))
              (case aL => have := HLj.out; simp only [List.nil_append, List.length_take, List.length_cons, List.length_nil]; omega)
              intro vd w_vd ho hb hg hat
              have n0_ := Aside0.mk (hb)
              have n1_ := Aside0.mk (ho)
              clear HB HO
              have HB := n0_
              have HO := n1_
              clear n0_ n1_
              clear ho hb hg hat
              refine hK.out _ _ trivial (fun hHeld => ?_)
              clear hK K
              refine norm_ (a' := ?_) ?_ ?_
              rotate_left
              · show Act.put _ (some 34) _ = _
                simp only [Act.put, List.setIfInBounds_toArray, List.set_cons_zero, List.set_cons_succ, i64_w, i32_w]
                rfl
              refine one_ (i := 11) (N := some 38) #[true, true, true, true, true, true, true, true, true, true, true, true, false] rfl rfl (one_of HT_.out (by kernel_rfl)) (by decide) (fun K hK => ?_)
              refine Kd.R_append_rows_step (Kd.int .i64) (w0 := W1) W1.heap.size (by rfl) (.tmp 34) (.tmp 37) 22 3 (.int .i64 0) 8 rfl Try.underlying22 info3 rfl (by decide) (by omega) vd (([] ++ xs.take ji.toNat) ++ [x]) (xs.drop ji.toNat) _ _ _ (fun _ => True) (fun _ => False) rfl rfl ?aO ?aR (fun _ _ h => h) (fun _ h => h.elim) ?aF ?aB ?aS ?aL ?_
              (case aR => have hT_ := Kd.C_below HRd.out HB.out; rw [HLd.out] at hT_; exact hT_)
              (case aB => exact HB.out)
              (case aF => exact (fun _ _ => trivial))
              (case aO => exact HO.out)
              (case aS => exact (below_size HB.out))
              (case aL => have := HLj.out; simp only [List.nil_append, List.length_append, List.length_take, List.length_cons, List.length_nil]; omega)
              intro ve w_ve ho hb hg hat
              have n0_ := Aside0.mk (hb)
              have n1_ := Aside0.mk (ho)
              clear HB HO
              have HB := n0_
              have HO := n1_
              clear n0_ n1_
              clear ho hb hg hat
              refine hK.out _ _ trivial (fun hHeld => ?_)
              clear hK K
              refine norm_ (a' := ?_) ?_ ?_
              rotate_left
              · show Act.put _ (some 38) _ = _
                simp only [Act.put, List.setIfInBounds_toArray, List.set_cons_zero, List.set_cons_succ, i64_w, i32_w]
                rfl
              refine pure_ (i := 12) (N := some 3) (v := ?_) (a' := ?_) #[true, true, true, true, true, true, true, true, true, true, true, true, true] rfl rfl (any_of HT_.out (by kernel_rfl)) (fun _ _ _ h => h) (Or.inl ⟨by rfl, ?_⟩) ?_ ?_
              rotate_left
              · intro w'
                go_simp
                with_reducible rfl
              rotate_left
              · simp only [Act.put, List.setIfInBounds_toArray, List.set_cons_zero, List.set_cons_succ, i64_w, i32_w]
                rfl
              refine done_ (done_of HT_.out (by kernel_rfl)) ?_
              have HOf := Aside0.mk (show Kd.R (Kd.int .i64) 3 w_ve w.heap.size (fun _ => True) ve (insAll (l0.take (k + 1))) from by rw [hts.out]; unfold ins; rw [HI.out, ← hjn.out]; exact Kd.R_lower HO.out HW1.out.size)
              have HBf := Aside0.mk (below_step HW1.out HB.out)
              go_wp2
              go_roundw
              case rel => exact ⟨k + 1, by omega, by go_num, HOf, HBf⟩
              case measure => simp [intOf]; omega
          · refine Kd.R_lit_step (Kd.int .i64) _ 3 ?hg (N := 33) ?hd (xs := ([x] : List Int)) (inner := [.int .i64 x]) (ok := fun k_ => True) (okp := fun _ => False) ?hr ?hp (fun _ hk => hk.elim) ?hf (Below.refl _ _) (Nat.le_refl _) (by simp) ?_; (case hd => rfl); (case hg => rfl); (case hr => first | (go_simp; done) | (go_simp; rfl)); (case hp => exact (Kd.reps_scalar [x]))
            (case hf => trivial)
            intro vc wc ho hb hg_ hnew_
            clear hg_ hnew_
            have n1_ := Aside0.mk (below_step HB.out hb)
            have n2_ := Aside0.mk (Kd.R_lower ho (below_size HB.out))
            clear HB
            have HB := n1_
            obtain ⟨Ac, cc, ec⟩ := Kd.R_slice n2_.out
            subst ec
            have HC := n2_
            clear n1_ n2_ hb ho
            refine hK.out _ _ trivial (fun hHeld => ?_)
            clear hK K
            refine norm_ (a' := ?_) ?_ ?_
            rotate_left
            · show Act.put _ (some 33) _ = _
              simp only [Act.put, List.setIfInBounds_toArray, List.set_cons_zero, List.set_cons_succ, i64_w, i32_w]
              rfl
            refine one_ (i := 0) (N := some 27) #[true, true, true, true, false, true, true, false, true, true, true, false, false] rfl rfl (one_of HT_.out (by kernel_rfl)) (by decide) (fun K hK => ?_)
            refine Kd.R_lit_step (Kd.int .i64) _ 3 ?hg (N := 27) ?hd (xs := ([] : List Int)) (inner := []) (ok := fun _ => True) (okp := fun _ => True) ?hr ?hp (fun _ hk => hk) trivial (Below.refl _ _) (Nat.le_refl _) (by simp) ?_; (case hd => rfl); (case hg => rfl); (case hr => first | (go_simp; done) | (go_simp; rfl)); (case hp => exact (Reps.none _ _))
            intro va wa ho hb hg_ hnew_
            have n0_ := Aside0.mk (Kd.R_lower ho (below_size HB.out))
            have n1_ := Aside0.mk (below_step HB.out hb)
            have n2_ := Aside0.mk (Kd.R_mono (Kd.R_bound HC.out) (ok' := fun k_ => some k_ ≠ va.ownBlock) (fun k_ hk_ e_ => by
              obtain ⟨b_, e2_, hb_⟩ := hnew_
              have h3_ := hk_.2.2.1
              rw [e2_] at e_
              cases e_
              omega))
            have n3_ := Aside0.mk (Kd.R_below n2_.out hb)
            clear HC n2_
            have HC := n3_
            clear n3_
            clear HB
            have HO := n0_
            have HB := n1_
            clear n0_ n1_ hb ho hg_ hnew_
            refine hK.out _ _ trivial (fun hHeld => ?_)
            clear hK K
            refine norm_ (a' := ?_) ?_ ?_
            rotate_left
            · show Act.put _ (some 27) _ = _
              simp only [Act.put, List.setIfInBounds_toArray, List.set_cons_zero, List.set_cons_succ, i64_w, i32_w]
              rfl
            refine one_ (i := 4) (N := some 31) #[true, true, true, true, true, true, true, false, true, true, true, false, false] rfl rfl (one_of HT_.out (by kernel_rfl)) (by decide) (fun K hK => ?_)
            refine Kd.R_append_rows_step (Kd.int .i64) (w0 := W1) W1.heap.size (by rfl) (.tmp 27) (.tmp 30) 22 3 (.int .i64 0) 8 rfl Try.underlying22 info3 rfl (by decide) (by omega) va ([]) (xs.take ji.toNat) _ _ _ (fun _ => True) (fun _ => False) rfl rfl ?aO ?aR (fun _ _ h => h) (fun _ h => h.elim) ?aF ?aB ?aS ?aL ?_
            (case aR => have hT_ := Kd.C_below HRt.out HB.out; rw [HLt.out] at hT_; exact hT_)
            (case aB => exact HB.out)
            (case aF => exact (fun _ _ => trivial))
            (case aO => exact HO.out)
            (case aS => exact (below_size HB.out))
            (case aL => have := HLj.out; simp only [List.length_nil]; omega)
            intro vb w_vb ho hb hg hat
            have n0_ := Aside0.mk (hb)
            have n1_ := Aside0.mk (ho)
            have n2_ := Aside0.mk (Kd.R_grown HC.out hg (fun _ hk_ => hk_))
            clear HC
            have HC := n2_
            clear n2_
            clear HB HO
            have HB := n0_
            have HO := n1_
            clear n0_ n1_
            clear ho hb hg hat
            refine hK.out _ _ trivial (fun hHeld => ?_)
            clear hK K
            refine norm_ (a' := ?_) ?_ ?_
            rotate_left
            · show Act.put _ (some 31) _ = _
              simp only [Act.put, List.setIfInBounds_toArray, List.set_cons_zero, List.set_cons_succ, i64_w, i32_w]
              rfl
            have HRc := Aside0.mk (Kd.R_reads' HC.out).2.2
            refine one_ (i := 7) (N := some 34) #[true, true, true, true, true, true, true, true, true, true, true, false, false] rfl rfl (one_of HT_.out (by kernel_rfl)) (by decide) (fun K hK => ?_)
            refine Kd.R_append_rows_step (Kd.int .i64) (w0 := W1) W1.heap.size (by rfl) (.tmp 31) (.tmp 33) 22 3 (.int .i64 0) 8 rfl Try.underlying22 info3 rfl (by decide) (by omega) vb ([] ++ xs.take ji.toNat) ([x]) _ _ _ (fun _ => True) (fun _ => False) rfl rfl ?aO ?aR (fun _ _ h => h) (fun _ h => h.elim) ?aF ?aB ?aS ?aL ?_
            (case aR => exact HRc.out)
            (case aB => exact HB.out)
            (case aF => exact (fun _ _ => trivial))
            (case aO => exact HO.out)
            (case aS => exact (below_size HB.out))
            (case aL => have := HLj.out; simp only [List.nil_append, List.length_take, List.length_cons, List.length_nil]; omega)
            intro vd w_vd ho hb hg hat
            have n0_ := Aside0.mk (hb)
            have n1_ := Aside0.mk (ho)
            clear HB HO
            have HB := n0_
            have HO := n1_
            clear n0_ n1_
            clear ho hb hg hat
            refine hK.out _ _ trivial (fun hHeld => ?_)
            clear hK K
            refine norm_ (a' := ?_) ?_ ?_
            rotate_left
            · show Act.put _ (some 34) _ = _
              simp only [Act.put, List.setIfInBounds_toArray, List.set_cons_zero, List.set_cons_succ, i64_w, i32_w]
              rfl
            refine one_ (i := 11) (N := some 38) #[true, true, true, true, true, true, true, true, true, true, true, true, false] rfl rfl (one_of HT_.out (by kernel_rfl)) (by decide) (fun K hK => ?_)
            refine Kd.R_append_rows_step (Kd.int .i64) (w0 := W1) W1.heap.size (by rfl) (.tmp 34) (.tmp 37) 22 3 (.int .i64 0) 8 rfl Try.underlying22 info3 rfl (by decide) (by omega) vd (([] ++ xs.take ji.toNat) ++ [x]) (xs.drop ji.toNat) _ _ _ (fun _ => True) (fun _ => False) rfl rfl ?aO ?aR (fun _ _ h => h) (fun _ h => h.elim) ?aF ?aB ?aS ?aL ?_
            (case aR => have hT_ := Kd.C_below HRd.out HB.out; rw [HLd.out] at hT_; exact hT_)
            (case aB => exact HB.out)
            (case aF => exact (fun _ _ => trivial))
            (case aO => exact HO.out)
            (case aS => exact (below_size HB.out))
            (case aL => have := HLj.out; simp only [List.nil_append, List.length_append, List.length_take, List.length_cons, List.length_nil]; omega)
            intro ve w_ve ho hb hg hat
            have n0_ := Aside0.mk (hb)
            have n1_ := Aside0.mk (ho)
            clear HB HO
            have HB := n0_
            have HO := n1_
            clear n0_ n1_
            clear ho hb hg hat
            refine hK.out _ _ trivial (fun hHeld => ?_)
            clear hK K
            refine norm_ (a' := ?_) ?_ ?_
            rotate_left
            · show Act.put _ (some 38) _ = _
              simp only [Act.put, List.setIfInBounds_toArray, List.set_cons_zero, List.set_cons_succ, i64_w, i32_w]
              rfl
            refine pure_ (i := 12) (N := some 3) (v := ?_) (a' := ?_) #[true, true, true, true, true, true, true, true, true, true, true, true, true] rfl rfl (any_of HT_.out (by kernel_rfl)) (fun _ _ _ h => h) (Or.inl ⟨by rfl, ?_⟩) ?_ ?_
            rotate_left
            · intro w'
              go_simp
              with_reducible rfl
            rotate_left
            · simp only [Act.put, List.setIfInBounds_toArray, List.set_cons_zero, List.set_cons_succ, i64_w, i32_w]
              rfl
            refine done_ (done_of HT_.out (by kernel_rfl)) ?_
            have HOf := Aside0.mk (show Kd.R (Kd.int .i64) 3 w_ve w.heap.size (fun _ => True) ve (insAll (l0.take (k + 1))) from by rw [hts.out]; unfold ins; rw [HI.out, ← hjn.out]; exact Kd.R_lower HO.out HW1.out.size)
            have HBf := Aside0.mk (below_step HW1.out HB.out)
            go_wp2
            go_roundw
            case rel => exact ⟨k + 1, by omega, by go_num, HOf, HBf⟩
            case measure => simp [intOf]; omega
    · have hkd : decide ((k : Int) < (l0.length : Int)) = false := decide_eq_false (by omega)
      have hkd2 : decide (k < l0.length) = false := decide_eq_false hlt
      have hkl : l0.take k = l0 := List.take_of_length_le (by omega)
      rw [hkl, HRES.out] at HV
      go_wp2
      go_ret
      exact ⟨_, rfl, HV.out, HW.out⟩
end Go.Proofs.Ytefmafbbnkkpjaa.X
