/- The walk of the reference's Below. -/
import Derived.Test.YtefmafbbnkkpjaaSX
import Derived.Test.YtefmafbbnkkpjaaXf24
import Derived.Test.YtefmafbbnkkpjaaSA
namespace Go.Proofs.Ytefmafbbnkkpjaa.X
open Go.Proofs.Ytefmafbbnkkpjaa.Pure Go.RowKit Go.Shelf Go.Proofs.YtefmafbbnkkpjaaW.PrintWords Go.Proofs.YtefmafbbnkkpjaaW.PrintLast Go.Proofs.YtefmafbbnkkpjaaW.PrintMore
set_option linter.unusedVariables false
set_option linter.unusedSimpArgs false

theorem below_of_drawn {W w1 : World} (h : Drawn0 W w1) : Below W.heap.size W w1 := by
  obtain ⟨nd, rfl⟩ := h
  exact pw_below_drewN (Below.refl _ _) _
def cB (uB sB : List Int → List Int → Bool) (a b c : List Int) : Bool := !sB a c && (!sB b c && (uB a c && uB c b))
def nextB (uB sB : List Int → List Int → Bool) (a : List Int) (all : List (List Int)) (b : List Int) (i : Nat) : Bool := (uB a b && !sB a b) && !((all.take i).any (cB uB sB a b))
def refP (uB sB : List Int → List Int → Bool) (a : List Int) (all : List (List Int)) (j : Nat) : List (List Int) := (all.take j).filter fun b => nextB uB sB a all b all.length
theorem nextB_zero (uB sB : List Int → List Int → Bool) (a : List Int) (all : List (List Int)) (b : List Int) : nextB uB sB a all b 0 = (uB a b && !sB a b) := by simp [nextB]
theorem nextB_succ (uB sB : List Int → List Int → Bool) (a : List Int) (all : List (List Int)) (b : List Int) (i : Nat) (h : i < all.length) : nextB uB sB a all b (i + 1) = (nextB uB sB a all b i && !cB uB sB a b all[i]) := by
  unfold nextB
  rw [List.take_succ_eq_append_getElem h, List.any_append]
  simp [Bool.and_assoc]
theorem refP_succ (uB sB : List Int → List Int → Bool) (a : List Int) (all : List (List Int)) (j : Nat) (h : j < all.length) : refP uB sB a all (j + 1) = refP uB sB a all j ++ if nextB uB sB a all all[j] all.length = true then [all[j]] else [] := by
  unfold refP
  rw [List.take_succ_eq_append_getElem h, List.filter_append]
  congr 1
  simp only [List.filter_cons, List.filter_nil]
theorem refP_len (uB sB : List Int → List Int → Bool) (a : List Int) (all : List (List Int)) (j : Nat) : (refP uB sB a all j).length ≤ all.length := by
  unfold refP
  have := List.length_filter_le (fun b => nextB uB sB a all b all.length) (all.take j)
  rw [List.length_take] at this
  omega
set_option maxHeartbeats 16000000 in
set_option maxRecDepth 100000 in
theorem rbelow_calls (K k : Nat) (n : Int) (A : Option Addr) (c : Nat) (a : List Int) (all : List (List Int)) (uB sB : List Int → List Int → Bool) (w : World) (hr : Kd.C (Kd.int .i64) w A a.length a) (hc : a.length ≤ c)
    (hsum : congouref01_sum.f k a 12 = some n) (hall : congouref01_All.f K n 12 = some all) (hm : all.length ≤ 100000) (h0 : 0 < all.length)
    (hU : ∀ x, x ∈ a :: all → ∀ y, y ∈ a :: all → congouref01_Uneven.f k x y = some (uB x y)) (hE : ∀ x, x ∈ a :: all → ∀ y, y ∈ a :: all → congouref01_same.f k x y = some (sB x y)) :
    Calls Try.prog 55 #[.slice A a.length c] w fun e w' => ∃ v, e = .returned v ∧ Kd.R (Kd.slice 3 (Kd.int .i64)) 22 w' w.heap.size (fun _ => True) v (refP uB sB a all all.length) ∧ Below w.heap.size w w' := by
  have HR := Aside0.mk hr
  have HSM := Aside0.mk (congouref01_sum.calls k A c a 12 n w hr hc hsum)
  have HAL := Aside0.mk (fun (W : World) => congouref01_All.calls K n 12 all W hall)
  have HU := Aside0.mk hU
  have HE := Aside0.mk hE
  clear hr hsum hall hU hE
  go_enter Try.func55, Try.ntmps55
  go_wp2_with (first | (go_at_call 62; refine (HSM.out).mono ?_; rintro e w1 ⟨rfl, hdr⟩; have HB1 := Aside0.mk (show Below w.heap.size w w1 from by obtain ⟨nd, rfl⟩ := hdr; exact pw_below_drewN (Below.refl _ _) _); clear hdr) | (go_at_call 70; refine (HAL.out _).mono ?_; rintro e w3 ⟨v3, rfl, ho, hb⟩; have HO3 := Aside0.mk (Kd.R_lower (Kd.S_R ho) (below_size HB1.out)); have HB3 := Aside0.mk (below_step HB1.out hb); obtain ⟨A3, c3, rfl⟩ := Kd.R_slice HO3.out; clear ho hb))
  obtain ⟨gA, cA, e3, hg0, hg1, cells, hgt⟩ := Kd.R_form HO3.out h0
  injection e3 with e31 _ e32
  subst e31
  subst e32
  obtain ⟨vs, hallA⟩ := AllAt.of HO3.out
  have HALL := Aside0.mk hallA
  clear hallA hg0 hg1 hgt HO3 HSM HAL HB1
  go_loopw [4, 15] (fun v4 v15 wr => ∃ j : Nat, ∃ A5 c5, v4 = .slice A5 (refP uB sB a all j).length c5 ∧ j ≤ all.length ∧ v15 = .int .i64 j ∧ Aside0 (Kd.R (Kd.slice 3 (Kd.int .i64)) 22 wr w.heap.size (fun k => k ≠ gA) v4 (refP uB sB a all j)) ∧ Aside0 (AllAt wr w.heap.size gA all vs) ∧ Aside0 (Below w.heap.size w wr)) (fun _ v15 _ => all.length - (intOf v15).toNat)
  case atStart => exact ⟨0, none, 0, rfl, by omega, rfl, ⟨show Kd.R (Kd.slice 3 (Kd.int .i64)) 22 w3 w.heap.size (fun k => k ≠ gA) (.slice none 0 0) [] from Kd.R_nil _ _ _ _ _⟩, HALL, HB3⟩
  case round =>
    clear HALL HB3
    obtain ⟨j, A5, c5, rfl, hj, rfl, HO, HALL, HB⟩ := hrel
    by_cases hlt : j < all.length
    · have hjd : decide ((j : Int) < (all.length : Int)) = true := decide_eq_true (by omega)
      have hjd2 : decide (j < all.length) = true := decide_eq_true hlt
      have hsu := Aside0.mk (refP_succ uB sB a all j hlt)
      have hol := Aside0.mk (refP_len uB sB a all j)
      have hcell := HALL.out.cell j hlt
      have hrow := HALL.out.row j hlt
      obtain ⟨Aj, cj, ej, hle, hCj⟩ := Kd.R_reads hrow
      rw [ej] at hcell
      have HEJ := Aside0.mk ej
      have hbm : all[j] ∈ a :: all := List.mem_cons_of_mem _ (List.getElem_mem hlt)
      have HROW := Aside0.mk (fun (W : World) (ha : AllAt W w.heap.size gA all vs) => (show Kd.R (Kd.int .i64) 3 W w.heap.size (fun k => k ≠ gA) (.slice Aj all[j].length cj) all[j] from by rw [← HEJ.out]; exact ha.row j hlt))
      clear hrow ej hCj
      have HUab := Aside0.mk (fun (W : World) (hb : Below wr.heap.size wr W) => congouref01_Uneven.calls k A c a Aj cj all[j] (uB a all[j]) W (Kd.C_below HR.out (below_step HB.out hb)) hc (Kd.R_reads' (HROW.out W (HALL.out.below hb))).2.2 hle (HU.out a (by simp) _ hbm))
      have HSab := Aside0.mk (fun (W : World) (hb : Below wr.heap.size wr W) => congouref01_same.calls k A c a Aj cj all[j] (sB a all[j]) W (Kd.C_below HR.out (below_step HB.out hb)) hc (Kd.R_reads' (HROW.out W (HALL.out.below hb))).2.2 hle (HE.out a (by simp) _ hbm))
      have HBM := Aside0.mk hbm
      have HN0 := Aside0.mk (nextB_zero uB sB a all all[j])
      have HNS := Aside0.mk (fun i h => nextB_succ uB sB a all all[j] i h)
      clear hbm HEJ
      generalize all[j] = b at *
      have HQ := Aside0.mk (Below.refl wr.heap.size wr)
      cases hu : uB a b with
      | true =>
        have HUV := Aside0.mk hu
        rw [hu] at HUab
        clear hu
        generalize refP uB sB a all j = out at *
        go_wp2_with (first | (go_at_call 24; (with_reducible refine (HUab.out _ HQ.out).mono ?_); rintro e w5 ⟨rfl, hb⟩; replace HQ := Aside0.mk (below_step HQ.out hb); clear hb) | (go_at_call 91; (with_reducible refine (HSab.out _ HQ.out).mono ?_); rintro e w5 ⟨rfl, hdr⟩; replace HQ := Aside0.mk (below_step HQ.out (below_of_drawn hdr)); clear hdr))
        go_loopw [7, 30] (fun v7 v30 wq => ∃ i : Nat, i ≤ all.length ∧ v7 = .bool (nextB uB sB a all b i) ∧ v30 = .int .i64 i ∧ Aside0 (Kd.R (Kd.slice 3 (Kd.int .i64)) 22 wq w.heap.size (fun k => k ≠ gA) (.slice A5 out.length c5) out) ∧ Aside0 (AllAt wq w.heap.size gA all vs) ∧ Aside0 (Below w.heap.size w wq)) (fun _ v30 _ => all.length - (intOf v30).toNat)
        case atStart => exact ⟨0, by omega, by rw [HN0.out, HUV.out]; rfl, rfl, ⟨Kd.R_below HO.out HQ.out⟩, ⟨HALL.out.below HQ.out⟩, ⟨below_step HB.out HQ.out⟩⟩
        case round =>
          clear HQ HO HALL HB HUab HSab HUV
          obtain ⟨i, hi, rfl, rfl, HO2, HALL2, HB2⟩ := hrel
          by_cases hil : i < all.length
          · have hid : decide ((i : Int) < (all.length : Int)) = true := decide_eq_true (by omega)
            have hid2 : decide (i < all.length) = true := decide_eq_true hil
            have hns := Aside0.mk (HNS.out i hil)
            have hcell := HALL2.out.cell i hil
            obtain ⟨Ai, ci, ei, hlei, _⟩ := Kd.R_reads (HALL2.out.row i hil)
            rw [ei] at hcell
            have HEI := Aside0.mk ei
            have hcm : all[i] ∈ a :: all := List.mem_cons_of_mem _ (List.getElem_mem hil)
            have HROWI := Aside0.mk (fun (W : World) (ha : AllAt W w.heap.size gA all vs) => (show Kd.R (Kd.int .i64) 3 W w.heap.size (fun k => k ≠ gA) (.slice Ai all[i].length ci) all[i] from by rw [← HEI.out]; exact ha.row i hil))
            have HSac := Aside0.mk (fun (W : World) (hb : Below wr.heap.size wr W) => congouref01_same.calls k A c a Ai ci all[i] (sB a all[i]) W (Kd.C_below HR.out (below_step HB2.out hb)) hc (Kd.R_reads' (HROWI.out W (HALL2.out.below hb))).2.2 hlei (HE.out a (by simp) _ hcm))
            have HSbc := Aside0.mk (fun (W : World) (hb : Below wr.heap.size wr W) => congouref01_same.calls k Aj cj b Ai ci all[i] (sB b all[i]) W (Kd.R_reads' (HROW.out W (HALL2.out.below hb))).2.2 hle (Kd.R_reads' (HROWI.out W (HALL2.out.below hb))).2.2 hlei (HE.out b HBM.out _ hcm))
            have HUac := Aside0.mk (fun (W : World) (hb : Below wr.heap.size wr W) => congouref01_Uneven.calls k A c a Ai ci all[i] (uB a all[i]) W (Kd.C_below HR.out (below_step HB2.out hb)) hc (Kd.R_reads' (HROWI.out W (HALL2.out.below hb))).2.2 hlei (HU.out a (by simp) _ hcm))
            have HUcb := Aside0.mk (fun (W : World) (hb : Below wr.heap.size wr W) => congouref01_Uneven.calls k Ai ci all[i] Aj cj b (uB all[i] b) W (Kd.R_reads' (HROWI.out W (HALL2.out.below hb))).2.2 hlei (Kd.R_reads' (HROW.out W (HALL2.out.below hb))).2.2 hle (HU.out _ hcm b HBM.out))
            have HCD := Aside0.mk (show cB uB sB a b all[i] = (!sB a all[i] && (!sB b all[i] && (uB a all[i] && uB all[i] b))) from rfl)
            clear hcm HEI ei
            generalize all[i] = d at *
            have HQ := Aside0.mk (Below.refl wr.heap.size wr)
            generalize nextB uB sB a all b i = nx at *
            cases h1 : sB a d with
            | true =>
              rw [h1] at HSac HCD
              clear h1 HSbc HUac HUcb
              go_wp2_with (first | (go_at_call 91; (with_reducible refine (HSac.out _ HQ.out).mono ?_); rintro e w5 ⟨rfl, hdr⟩; replace HQ := Aside0.mk (below_step HQ.out (below_of_drawn hdr)); clear hdr) | (go_at_call 91; (with_reducible refine (HSbc.out _ HQ.out).mono ?_); rintro e w5 ⟨rfl, hdr⟩; replace HQ := Aside0.mk (below_step HQ.out (below_of_drawn hdr)); clear hdr) | (go_at_call 24; (with_reducible refine (HUac.out _ HQ.out).mono ?_); rintro e w5 ⟨rfl, hb⟩; replace HQ := Aside0.mk (below_step HQ.out hb); clear hb) | (go_at_call 24; (with_reducible refine (HUcb.out _ HQ.out).mono ?_); rintro e w5 ⟨rfl, hb⟩; replace HQ := Aside0.mk (below_step HQ.out hb); clear hb))
              go_roundw
              case rel => exact ⟨i + 1, by omega, by rw [hns.out, HCD.out]; simp, by go_num, ⟨Kd.R_below HO2.out HQ.out⟩, ⟨HALL2.out.below HQ.out⟩, ⟨below_step HB2.out HQ.out⟩⟩
              case measure => simp [intOf]; omega
            | false =>
              rw [h1] at HSac HCD
              clear h1
              cases h2 : sB b d with
              | true =>
                rw [h2] at HSbc HCD
                clear h2 HUac HUcb
                go_wp2_with (first | (go_at_call 91; (with_reducible refine (HSac.out _ HQ.out).mono ?_); rintro e w5 ⟨rfl, hdr⟩; replace HQ := Aside0.mk (below_step HQ.out (below_of_drawn hdr)); clear hdr) | (go_at_call 91; (with_reducible refine (HSbc.out _ HQ.out).mono ?_); rintro e w5 ⟨rfl, hdr⟩; replace HQ := Aside0.mk (below_step HQ.out (below_of_drawn hdr)); clear hdr) | (go_at_call 24; (with_reducible refine (HUac.out _ HQ.out).mono ?_); rintro e w5 ⟨rfl, hb⟩; replace HQ := Aside0.mk (below_step HQ.out hb); clear hb) | (go_at_call 24; (with_reducible refine (HUcb.out _ HQ.out).mono ?_); rintro e w5 ⟨rfl, hb⟩; replace HQ := Aside0.mk (below_step HQ.out hb); clear hb))
                go_roundw
                case rel => exact ⟨i + 1, by omega, by rw [hns.out, HCD.out]; simp, by go_num, ⟨Kd.R_below HO2.out HQ.out⟩, ⟨HALL2.out.below HQ.out⟩, ⟨below_step HB2.out HQ.out⟩⟩
                case measure => simp [intOf]; omega
              | false =>
                rw [h2] at HSbc HCD
                clear h2
                cases h3 : uB a d with
                | false =>
                  rw [h3] at HUac HCD
                  clear h3 HUcb
                  go_wp2_with (first | (go_at_call 91; (with_reducible refine (HSac.out _ HQ.out).mono ?_); rintro e w5 ⟨rfl, hdr⟩; replace HQ := Aside0.mk (below_step HQ.out (below_of_drawn hdr)); clear hdr) | (go_at_call 91; (with_reducible refine (HSbc.out _ HQ.out).mono ?_); rintro e w5 ⟨rfl, hdr⟩; replace HQ := Aside0.mk (below_step HQ.out (below_of_drawn hdr)); clear hdr) | (go_at_call 24; (with_reducible refine (HUac.out _ HQ.out).mono ?_); rintro e w5 ⟨rfl, hb⟩; replace HQ := Aside0.mk (below_step HQ.out hb); clear hb) | (go_at_call 24; (with_reducible refine (HUcb.out _ HQ.out).mono ?_); rintro e w5 ⟨rfl, hb⟩; replace HQ := Aside0.mk (below_step HQ.out hb); clear hb))
                  go_roundw
                  case rel => exact ⟨i + 1, by omega, by rw [hns.out, HCD.out]; simp, by go_num, ⟨Kd.R_below HO2.out HQ.out⟩, ⟨HALL2.out.below HQ.out⟩, ⟨below_step HB2.out HQ.out⟩⟩
                  case measure => simp [intOf]; omega
                | true =>
                  rw [h3] at HUac HCD
                  clear h3
                  cases h4 : uB d b with
                  | false =>
                    rw [h4] at HUcb HCD
                    clear h4
                    go_wp2_with (first | (go_at_call 91; (with_reducible refine (HSac.out _ HQ.out).mono ?_); rintro e w5 ⟨rfl, hdr⟩; replace HQ := Aside0.mk (below_step HQ.out (below_of_drawn hdr)); clear hdr) | (go_at_call 91; (with_reducible refine (HSbc.out _ HQ.out).mono ?_); rintro e w5 ⟨rfl, hdr⟩; replace HQ := Aside0.mk (below_step HQ.out (below_of_drawn hdr)); clear hdr) | (go_at_call 24; (with_reducible refine (HUac.out _ HQ.out).mono ?_); rintro e w5 ⟨rfl, hb⟩; replace HQ := Aside0.mk (below_step HQ.out hb); clear hb) | (go_at_call 24; (with_reducible refine (HUcb.out _ HQ.out).mono ?_); rintro e w5 ⟨rfl, hb⟩; replace HQ := Aside0.mk (below_step HQ.out hb); clear hb))
                    go_roundw
                    case rel => exact ⟨i + 1, by omega, by rw [hns.out, HCD.out]; simp, by go_num, ⟨Kd.R_below HO2.out HQ.out⟩, ⟨HALL2.out.below HQ.out⟩, ⟨below_step HB2.out HQ.out⟩⟩
                    case measure => simp [intOf]; omega
                  | true =>
                    rw [h4] at HUcb HCD
                    clear h4
                    go_wp2_with (first | (go_at_call 91; (with_reducible refine (HSac.out _ HQ.out).mono ?_); rintro e w5 ⟨rfl, hdr⟩; replace HQ := Aside0.mk (below_step HQ.out (below_of_drawn hdr)); clear hdr) | (go_at_call 91; (with_reducible refine (HSbc.out _ HQ.out).mono ?_); rintro e w5 ⟨rfl, hdr⟩; replace HQ := Aside0.mk (below_step HQ.out (below_of_drawn hdr)); clear hdr) | (go_at_call 24; (with_reducible refine (HUac.out _ HQ.out).mono ?_); rintro e w5 ⟨rfl, hb⟩; replace HQ := Aside0.mk (below_step HQ.out hb); clear hb) | (go_at_call 24; (with_reducible refine (HUcb.out _ HQ.out).mono ?_); rintro e w5 ⟨rfl, hb⟩; replace HQ := Aside0.mk (below_step HQ.out hb); clear hb))
                    go_roundw
                    case rel => exact ⟨i + 1, by omega, by rw [hns.out, HCD.out]; simp, by go_num, ⟨Kd.R_below HO2.out HQ.out⟩, ⟨HALL2.out.below HQ.out⟩, ⟨below_step HB2.out HQ.out⟩⟩
                    case measure => simp [intOf]; omega
          · have hid : decide ((i : Int) < (all.length : Int)) = false := decide_eq_false (by omega)
            have hid2 : decide (i < all.length) = false := decide_eq_false hil
            obtain rfl : i = all.length := by omega
            cases hnx : nextB uB sB a all b all.length with
            | true =>
              rw [hnx, if_pos rfl] at hsu
              clear hnx
              go_wp2_with (first | ((with_reducible refine gate_builtin (b := .append) (xs := #[.tmp 56, .tmp 58]) rfl ?_); at_builtin; refine Kd.R_append (Kd.slice 3 (Kd.int .i64)) (w0 := w) w.heap.size rfl (.tmp 56) (.tmp 58) 48 22 (.slice none 0 0) 24 rfl Try.underlying48 info22 rfl (by decide) (by omega) (.slice A5 out.length c5) out b [.slice Aj b.length cj] (fun k => k ≠ gA) (fun k => k ≠ gA ∧ some k ≠ (Value.slice A5 out.length c5).ownBlock) rfl rfl ?aP (fun k hk => hk) ?aF ?aO ?aB ?aS ?aL ?_; (case aP => exact ⟨_, rfl, Kd.R_mono (Kd.R_bound (HROW.out _ HALL2.out)) (fun k hk => ⟨hk.1, row_ne HO2.out hk.2.2.2⟩)⟩); (case aB => exact HB2.out); (case aF => exact (fun k hk e => by obtain ⟨cur, hcur⟩ := HALL2.out.typ; have := blk_lt hcur; omega)); (case aO => exact HO2.out); (case aS => exact (below_size HB2.out)); (case aL => have := hol.out; omega); intro v7 w7 ho hb hg hat; obtain ⟨A7, c7, rfl⟩ := Kd.R_slice ho; have HO7 := Aside0.mk ho; have HALL7 := Aside0.mk (HALL2.out.grown hg (fun e => HO2.out.1 _ e rfl) (fun k hk => own_typed (Kd.R_own HO2.out).choose_spec k hk)); have HB7 := Aside0.mk hb; clear ho hb hg hat))
              go_roundw
              case rel => exact ⟨j + 1, A7, c7, by rw [hsu.out, List.length_append]; rfl, by omega, by go_num, ⟨by rw [hsu.out]; have h9 := HO7.out; rw [List.length_append] at h9; exact h9⟩, HALL7, HB7⟩
              case measure => simp [intOf]; omega
            | false =>
              rw [hnx, if_neg (by decide), List.append_nil] at hsu
              clear hnx
              go_wp2
              go_roundw
              case rel => exact ⟨j + 1, A5, c5, by rw [hsu.out], by omega, by go_num, ⟨by rw [hsu.out]; exact HO2.out⟩, HALL2, HB2⟩
              case measure => simp [intOf]; omega
      | false =>
        have HUV := Aside0.mk hu
        rw [hu] at HUab
        clear hu
        generalize refP uB sB a all j = out at *
        go_wp2_with (first | (go_at_call 24; (with_reducible refine (HUab.out _ HQ.out).mono ?_); rintro e w5 ⟨rfl, hb⟩; replace HQ := Aside0.mk (below_step HQ.out hb); clear hb))
        go_loopw [7, 30] (fun v7 v30 wq => ∃ i : Nat, i ≤ all.length ∧ v7 = .bool (nextB uB sB a all b i) ∧ v30 = .int .i64 i ∧ Aside0 (Kd.R (Kd.slice 3 (Kd.int .i64)) 22 wq w.heap.size (fun k => k ≠ gA) (.slice A5 out.length c5) out) ∧ Aside0 (AllAt wq w.heap.size gA all vs) ∧ Aside0 (Below w.heap.size w wq)) (fun _ v30 _ => all.length - (intOf v30).toNat)
        case atStart => exact ⟨0, by omega, by rw [HN0.out, HUV.out]; rfl, rfl, ⟨Kd.R_below HO.out HQ.out⟩, ⟨HALL.out.below HQ.out⟩, ⟨below_step HB.out HQ.out⟩⟩
        case round =>
          clear HQ HO HALL HB HUab HSab HUV
          obtain ⟨i, hi, rfl, rfl, HO2, HALL2, HB2⟩ := hrel
          by_cases hil : i < all.length
          · have hid : decide ((i : Int) < (all.length : Int)) = true := decide_eq_true (by omega)
            have hid2 : decide (i < all.length) = true := decide_eq_true hil
            have hns := Aside0.mk (HNS.out i hil)
            have hcell := HALL2.out.cell i hil
            obtain ⟨Ai, ci, ei, hlei, _⟩ := Kd.R_reads (HALL2.out.row i hil)
            rw [ei] at hcell
            have HEI := Aside0.mk ei
            have hcm : all[i] ∈ a :: all := List.mem_cons_of_mem _ (List.getElem_mem hil)
            have HROWI := Aside0.mk (fun (W : World) (ha : AllAt W w.heap.size gA all vs) => (show Kd.R (Kd.int .i64) 3 W w.heap.size (fun k => k ≠ gA) (.slice Ai all[i].length ci) all[i] from by rw [← HEI.out]; exact ha.row i hil))
            have HSac := Aside0.mk (fun (W : World) (hb : Below wr.heap.size wr W) => congouref01_same.calls k A c a Ai ci all[i] (sB a all[i]) W (Kd.C_below HR.out (below_step HB2.out hb)) hc (Kd.R_reads' (HROWI.out W (HALL2.out.below hb))).2.2 hlei (HE.out a (by simp) _ hcm))
            have HSbc := Aside0.mk (fun (W : World) (hb : Below wr.heap.size wr W) => congouref01_same.calls k Aj cj b Ai ci all[i] (sB b all[i]) W (Kd.R_reads' (HROW.out W (HALL2.out.below hb))).2.2 hle (Kd.R_reads' (HROWI.out W (HALL2.out.below hb))).2.2 hlei (HE.out b HBM.out _ hcm))
            have HUac := Aside0.mk (fun (W : World) (hb : Below wr.heap.size wr W) => congouref01_Uneven.calls k A c a Ai ci all[i] (uB a all[i]) W (Kd.C_below HR.out (below_step HB2.out hb)) hc (Kd.R_reads' (HROWI.out W (HALL2.out.below hb))).2.2 hlei (HU.out a (by simp) _ hcm))
            have HUcb := Aside0.mk (fun (W : World) (hb : Below wr.heap.size wr W) => congouref01_Uneven.calls k Ai ci all[i] Aj cj b (uB all[i] b) W (Kd.R_reads' (HROWI.out W (HALL2.out.below hb))).2.2 hlei (Kd.R_reads' (HROW.out W (HALL2.out.below hb))).2.2 hle (HU.out _ hcm b HBM.out))
            have HCD := Aside0.mk (show cB uB sB a b all[i] = (!sB a all[i] && (!sB b all[i] && (uB a all[i] && uB all[i] b))) from rfl)
            clear hcm HEI ei
            generalize all[i] = d at *
            have HQ := Aside0.mk (Below.refl wr.heap.size wr)
            generalize nextB uB sB a all b i = nx at *
            cases h1 : sB a d with
            | true =>
              rw [h1] at HSac HCD
              clear h1 HSbc HUac HUcb
              go_wp2_with (first | (go_at_call 91; (with_reducible refine (HSac.out _ HQ.out).mono ?_); rintro e w5 ⟨rfl, hdr⟩; replace HQ := Aside0.mk (below_step HQ.out (below_of_drawn hdr)); clear hdr) | (go_at_call 91; (with_reducible refine (HSbc.out _ HQ.out).mono ?_); rintro e w5 ⟨rfl, hdr⟩; replace HQ := Aside0.mk (below_step HQ.out (below_of_drawn hdr)); clear hdr) | (go_at_call 24; (with_reducible refine (HUac.out _ HQ.out).mono ?_); rintro e w5 ⟨rfl, hb⟩; replace HQ := Aside0.mk (below_step HQ.out hb); clear hb) | (go_at_call 24; (with_reducible refine (HUcb.out _ HQ.out).mono ?_); rintro e w5 ⟨rfl, hb⟩; replace HQ := Aside0.mk (below_step HQ.out hb); clear hb))
              go_roundw
              case rel => exact ⟨i + 1, by omega, by rw [hns.out, HCD.out]; simp, by go_num, ⟨Kd.R_below HO2.out HQ.out⟩, ⟨HALL2.out.below HQ.out⟩, ⟨below_step HB2.out HQ.out⟩⟩
              case measure => simp [intOf]; omega
            | false =>
              rw [h1] at HSac HCD
              clear h1
              cases h2 : sB b d with
              | true =>
                rw [h2] at HSbc HCD
                clear h2 HUac HUcb
                go_wp2_with (first | (go_at_call 91; (with_reducible refine (HSac.out _ HQ.out).mono ?_); rintro e w5 ⟨rfl, hdr⟩; replace HQ := Aside0.mk (below_step HQ.out (below_of_drawn hdr)); clear hdr) | (go_at_call 91; (with_reducible refine (HSbc.out _ HQ.out).mono ?_); rintro e w5 ⟨rfl, hdr⟩; replace HQ := Aside0.mk (below_step HQ.out (below_of_drawn hdr)); clear hdr) | (go_at_call 24; (with_reducible refine (HUac.out _ HQ.out).mono ?_); rintro e w5 ⟨rfl, hb⟩; replace HQ := Aside0.mk (below_step HQ.out hb); clear hb) | (go_at_call 24; (with_reducible refine (HUcb.out _ HQ.out).mono ?_); rintro e w5 ⟨rfl, hb⟩; replace HQ := Aside0.mk (below_step HQ.out hb); clear hb))
                go_roundw
                case rel => exact ⟨i + 1, by omega, by rw [hns.out, HCD.out]; simp, by go_num, ⟨Kd.R_below HO2.out HQ.out⟩, ⟨HALL2.out.below HQ.out⟩, ⟨below_step HB2.out HQ.out⟩⟩
                case measure => simp [intOf]; omega
              | false =>
                rw [h2] at HSbc HCD
                clear h2
                cases h3 : uB a d with
                | false =>
                  rw [h3] at HUac HCD
                  clear h3 HUcb
                  go_wp2_with (first | (go_at_call 91; (with_reducible refine (HSac.out _ HQ.out).mono ?_); rintro e w5 ⟨rfl, hdr⟩; replace HQ := Aside0.mk (below_step HQ.out (below_of_drawn hdr)); clear hdr) | (go_at_call 91; (with_reducible refine (HSbc.out _ HQ.out).mono ?_); rintro e w5 ⟨rfl, hdr⟩; replace HQ := Aside0.mk (below_step HQ.out (below_of_drawn hdr)); clear hdr) | (go_at_call 24; (with_reducible refine (HUac.out _ HQ.out).mono ?_); rintro e w5 ⟨rfl, hb⟩; replace HQ := Aside0.mk (below_step HQ.out hb); clear hb) | (go_at_call 24; (with_reducible refine (HUcb.out _ HQ.out).mono ?_); rintro e w5 ⟨rfl, hb⟩; replace HQ := Aside0.mk (below_step HQ.out hb); clear hb))
                  go_roundw
                  case rel => exact ⟨i + 1, by omega, by rw [hns.out, HCD.out]; simp, by go_num, ⟨Kd.R_below HO2.out HQ.out⟩, ⟨HALL2.out.below HQ.out⟩, ⟨below_step HB2.out HQ.out⟩⟩
                  case measure => simp [intOf]; omega
                | true =>
                  rw [h3] at HUac HCD
                  clear h3
                  cases h4 : uB d b with
                  | false =>
                    rw [h4] at HUcb HCD
                    clear h4
                    go_wp2_with (first | (go_at_call 91; (with_reducible refine (HSac.out _ HQ.out).mono ?_); rintro e w5 ⟨rfl, hdr⟩; replace HQ := Aside0.mk (below_step HQ.out (below_of_drawn hdr)); clear hdr) | (go_at_call 91; (with_reducible refine (HSbc.out _ HQ.out).mono ?_); rintro e w5 ⟨rfl, hdr⟩; replace HQ := Aside0.mk (below_step HQ.out (below_of_drawn hdr)); clear hdr) | (go_at_call 24; (with_reducible refine (HUac.out _ HQ.out).mono ?_); rintro e w5 ⟨rfl, hb⟩; replace HQ := Aside0.mk (below_step HQ.out hb); clear hb) | (go_at_call 24; (with_reducible refine (HUcb.out _ HQ.out).mono ?_); rintro e w5 ⟨rfl, hb⟩; replace HQ := Aside0.mk (below_step HQ.out hb); clear hb))
                    go_roundw
                    case rel => exact ⟨i + 1, by omega, by rw [hns.out, HCD.out]; simp, by go_num, ⟨Kd.R_below HO2.out HQ.out⟩, ⟨HALL2.out.below HQ.out⟩, ⟨below_step HB2.out HQ.out⟩⟩
                    case measure => simp [intOf]; omega
                  | true =>
                    rw [h4] at HUcb HCD
                    clear h4
                    go_wp2_with (first | (go_at_call 91; (with_reducible refine (HSac.out _ HQ.out).mono ?_); rintro e w5 ⟨rfl, hdr⟩; replace HQ := Aside0.mk (below_step HQ.out (below_of_drawn hdr)); clear hdr) | (go_at_call 91; (with_reducible refine (HSbc.out _ HQ.out).mono ?_); rintro e w5 ⟨rfl, hdr⟩; replace HQ := Aside0.mk (below_step HQ.out (below_of_drawn hdr)); clear hdr) | (go_at_call 24; (with_reducible refine (HUac.out _ HQ.out).mono ?_); rintro e w5 ⟨rfl, hb⟩; replace HQ := Aside0.mk (below_step HQ.out hb); clear hb) | (go_at_call 24; (with_reducible refine (HUcb.out _ HQ.out).mono ?_); rintro e w5 ⟨rfl, hb⟩; replace HQ := Aside0.mk (below_step HQ.out hb); clear hb))
                    go_roundw
                    case rel => exact ⟨i + 1, by omega, by rw [hns.out, HCD.out]; simp, by go_num, ⟨Kd.R_below HO2.out HQ.out⟩, ⟨HALL2.out.below HQ.out⟩, ⟨below_step HB2.out HQ.out⟩⟩
                    case measure => simp [intOf]; omega
          · have hid : decide ((i : Int) < (all.length : Int)) = false := decide_eq_false (by omega)
            have hid2 : decide (i < all.length) = false := decide_eq_false hil
            obtain rfl : i = all.length := by omega
            cases hnx : nextB uB sB a all b all.length with
            | true =>
              rw [hnx, if_pos rfl] at hsu
              clear hnx
              go_wp2_with (first | ((with_reducible refine gate_builtin (b := .append) (xs := #[.tmp 56, .tmp 58]) rfl ?_); at_builtin; refine Kd.R_append (Kd.slice 3 (Kd.int .i64)) (w0 := w) w.heap.size rfl (.tmp 56) (.tmp 58) 48 22 (.slice none 0 0) 24 rfl Try.underlying48 info22 rfl (by decide) (by omega) (.slice A5 out.length c5) out b [.slice Aj b.length cj] (fun k => k ≠ gA) (fun k => k ≠ gA ∧ some k ≠ (Value.slice A5 out.length c5).ownBlock) rfl rfl ?aP (fun k hk => hk) ?aF ?aO ?aB ?aS ?aL ?_; (case aP => exact ⟨_, rfl, Kd.R_mono (Kd.R_bound (HROW.out _ HALL2.out)) (fun k hk => ⟨hk.1, row_ne HO2.out hk.2.2.2⟩)⟩); (case aB => exact HB2.out); (case aF => exact (fun k hk e => by obtain ⟨cur, hcur⟩ := HALL2.out.typ; have := blk_lt hcur; omega)); (case aO => exact HO2.out); (case aS => exact (below_size HB2.out)); (case aL => have := hol.out; omega); intro v7 w7 ho hb hg hat; obtain ⟨A7, c7, rfl⟩ := Kd.R_slice ho; have HO7 := Aside0.mk ho; have HALL7 := Aside0.mk (HALL2.out.grown hg (fun e => HO2.out.1 _ e rfl) (fun k hk => own_typed (Kd.R_own HO2.out).choose_spec k hk)); have HB7 := Aside0.mk hb; clear ho hb hg hat))
              go_roundw
              case rel => exact ⟨j + 1, A7, c7, by rw [hsu.out, List.length_append]; rfl, by omega, by go_num, ⟨by rw [hsu.out]; have h9 := HO7.out; rw [List.length_append] at h9; exact h9⟩, HALL7, HB7⟩
              case measure => simp [intOf]; omega
            | false =>
              rw [hnx, if_neg (by decide), List.append_nil] at hsu
              clear hnx
              go_wp2
              go_roundw
              case rel => exact ⟨j + 1, A5, c5, by rw [hsu.out], by omega, by go_num, ⟨by rw [hsu.out]; exact HO2.out⟩, HALL2, HB2⟩
              case measure => simp [intOf]; omega
    · have hjd : decide ((j : Int) < (all.length : Int)) = false := decide_eq_false (by omega)
      have hjd2 : decide (j < all.length) = false := decide_eq_false hlt
      obtain rfl : j = all.length := by omega
      go_wp2
      go_ret
      exact ⟨.slice A5 (refP uB sB a all all.length).length c5, by rfl, Kd.R_mono HO.out (fun _ _ => trivial), HB.out⟩

/-! ### What it computes -/
theorem same_l (a b : List Int) (hl : a.length ≤ 1000) (he : a.length = b.length) (d : Nat) : ∀ (k i : Nat), i + d = a.length → d < k →
    congouref01_same.l0 k b a (a.length : Int) (i : Int) = some (a.drop i == b.drop i) := by
  induction d with
  | zero =>
    intro k i hi hk
    obtain ⟨k, rfl⟩ : ∃ m, k = m + 1 := ⟨k - 1, by omega⟩
    simp only [congouref01_same.l0]
    rw [if_neg (by omega), List.drop_eq_nil_of_le (by omega), List.drop_eq_nil_of_le (by omega)]
    rfl
  | succ d ih =>
    intro k i hi hk
    obtain ⟨k, rfl⟩ : ∃ m, k = m + 1 := ⟨k - 1, by omega⟩
    have hlt : i < a.length := by omega
    have hlb : i < b.length := by omega
    simp only [congouref01_same.l0]
    rw [if_pos (by omega), if_pos (by omega), if_pos (by omega), if_pos (by omega), rdC a i hlt, rdC b i hlb, List.drop_eq_getElem_cons hlt, List.drop_eq_getElem_cons hlb]
    by_cases h : a[i] = b[i]
    · rw [if_pos h, show wrap64 ((i : Int) + 1) = ((i + 1 : Nat) : Int) by unfold wrap64; omega, ih k (i + 1) (by omega) (by omega), List.cons_beq_cons, h, beq_self_eq_true, Bool.true_and]
    · rw [if_neg h, List.cons_beq_cons, beq_false_of_ne h, Bool.false_and]
theorem same_f (a b : List Int) (hl : a.length ≤ 1000) (k : Nat) (hk : a.length < k) : congouref01_same.f k a b = some (a == b) := by
  unfold congouref01_same.f
  by_cases h : a.length = b.length
  · rw [if_pos (by omega)]
    exact same_l a b hl h a.length k 0 (by omega) hk
  · rw [if_neg (by omega)]
    have : (a == b) = false := by
      rw [beq_eq_false_iff_ne]
      intro e
      exact h (by rw [e])
    rw [this]
theorem maj_pad {x y : List Int} (hx : Pa x) (hy : Pa y) : Maj (pad x) (pad y) ↔ Maj x y := by
  rw [Maj_desc (pad_desc hx) (pad_desc hy), Maj_desc hx.desc hy.desc]
  have e : ∀ a : List Int, (pad a).sum = a.sum := fun a => by simp [pad, List.sum_append]
  simp only [pad_psm, e]
theorem runeven_dom {x y : List Int} (hx : Pa x) (hy : Pa y) (k : Nat) (hk : 200 < k) : congouref01_Uneven.f k x y = some (domB x y) := by
  rw [runeven_f hx.sm hy.sm k hk]
  congr 1
  cases hq : domB x y with
  | true => exact dc_true ((maj_pad hx hy).mp ((domB_iff hx hy).mp hq))
  | false => exact dc_false (fun hm => by rw [(domB_iff hx hy).mpr ((maj_pad hx hy).mpr hm)] at hq; cases hq)
theorem refP_eq (n : Nat) (a : List Int) : refP domB (fun x y => x == y) a (allG 12 n 12) (allG 12 n 12).length = rbelowU n a := by
  unfold refP rbelowU lessB nextB
  rw [List.take_length, List.filter_filter]
  congr 1
  funext b
  rw [List.any_filter]
  have e : (fun c => cB domB (fun x y => x == y) a b c) = fun c => ((a != c) && domB a c) && ((b != c) && domB c b) := by
    funext c
    unfold cB
    simp only [bne]
    cases (a == c) <;> cases (b == c) <;> cases domB a c <;> cases domB c b <;> rfl
  rw [show cB domB (fun x y => x == y) a b = fun c => cB domB (fun x y => x == y) a b c from rfl, e]
  simp only [bne]
  cases (a == b) <;> cases domB a b <;> simp
def xRBelow.f (l : List Int) : Option (List (List Int)) := if paB l = true then some (rbelowU l.sum.toNat l) else none
theorem xRBelow.calls (A : Option Addr) (c : Nat) (l : List Int) (r : List (List Int)) (w : World) (hr : Kd.C (Kd.int .i64) w A l.length l) (hc : l.length ≤ c) (h : xRBelow.f l = some r) :
    Calls Try.prog 55 #[.slice A l.length c] w fun e w' => ∃ v, e = .returned v ∧ Kd.R (Kd.slice 3 (Kd.int .i64)) 22 w' w.heap.size (fun _ => True) v r ∧ Below w.heap.size w w' := by
  unfold xRBelow.f at h
  by_cases hp : paB l = true
  · rw [if_pos hp] at h
    obtain rfl := Option.some.inj h
    have hPa := (paB_iff l).mp hp
    obtain ⟨n, hn, hs, hm⟩ := pa_in hPa
    rw [show l.sum.toNat = n + 1 by omega]
    have hps : ∀ x, x ∈ l :: allG 12 (n + 1) 12 → Pa x := by
      intro x hx
      rcases List.mem_cons.mp hx with rfl | hx
      · exact hPa
      · have := (mem_all 12 (n + 1) 12 (by omega) x).mp hx
        exact pa_of this.pt (by have := this.sum; omega) (by have := this.sum; omega)
    obtain ⟨K, hK⟩ : ∃ K, 1200002 < K := ⟨1200003, by omega⟩
    have hlen := len_all 12 (n + 1) 12 (by omega)
    have h2 : 2 ^ (n + 1) ≤ 2 ^ 12 := Nat.pow_le_pow_right (by omega) (by omega)
    rw [← refP_eq]
    refine rbelow_calls K 2000 ((n + 1 : Nat) : Int) A c l (allG 12 (n + 1) 12) domB (fun x y => x == y) w hr hc ?_ ?_ (by omega) (List.length_pos_of_mem hm) (fun x hx y hy => runeven_dom (hps x hx) (hps y hy) 2000 (by omega)) (fun x hx y hy => same_f x y (by have := (hps x hx).len; omega) 2000 (by have := (hps x hx).len; omega))
    · have := sum_f hPa.sm 12 2000 (by omega)
      rw [show ((12 : Nat) : Int) = 12 from rfl] at this
      rw [this, psm_all hPa.len, hs]
    · have := all_f 12 (n + 1) 12 K (by omega) (by omega) (by omega)
      exact this
  · rw [if_neg hp] at h
    cases h
end Go.Proofs.Ytefmafbbnkkpjaa.X
