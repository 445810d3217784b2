/- The walk of SharesNext: what its text asks of the parts next below holds. -/
import Derived.Test.YtefmafbbnkkpjaaSZ
import Derived.Test.YtefmafbbnkkpjaaE43b
import Derived.Test.YtefmafbbnkkpjaaE55
import Derived.Test.YtefmafbbnkkpjaaXf21
import Derived.Test.YtefmafbbnkkpjaaXG3a
namespace Go.Proofs.Ytefmafbbnkkpjaa.X
open Go.Proofs.Ytefmafbbnkkpjaa.Pure Go.RowKit Go.Shelf Go.Proofs.YtefmafbbnkkpjaaW.PrintWords Go.Proofs.YtefmafbbnkkpjaaW.PrintLast Go.Proofs.YtefmafbbnkkpjaaW.PrintMore
set_option linter.unusedVariables false
set_option linter.unusedSimpArgs false

theorem rows_at {w : World} {A : Option Addr} {c : Nat} {base : Nat} {ok : Nat → Prop} {L : List (List Int)} (h : Kd.R (Kd.slice 3 (Kd.int .i64)) 22 w base ok (.slice A L.length c) L) (i : Nat) (hi : i < L.length) :
    ∃ ad A0 c0, A = some ad ∧ w.cell? (ad.add i) = some (.slice A0 L[i].length c0) ∧ L[i].length ≤ c0 ∧ Kd.C (Kd.int .i64) w A0 L[i].length L[i] := by
  obtain ⟨ad, A0, c0, e, h1, h2, h3⟩ := at_L1 (Kd.R_reads' h).2.2 (i : Int) (by omega) (by omega)
  rw [Int.toNat_natCast, rdL_at L i hi] at h1
  rw [rdL_at L i hi] at h2 h3
  exact ⟨ad, A0, c0, e, h1, h2, h3⟩
theorem rd_getD (l : List Int) (i : Nat) : rd l (i : Int) = l.getD i 0 := rfl
set_option maxHeartbeats 16000000 in
set_option maxRecDepth 100000 in
theorem next_bad (A : Option Addr) (c : Nat) (l : List Int) (w : World) (hl : l.length ≤ 17592186044416) (hr : Kd.C (Kd.int .i64) w A l.length l) (hc : l.length ≤ c) (hP : ¬ Pa l) :
    Calls Try.prog 11 #[.slice A l.length c] w fun e w' => e = .returned (.bool true) ∧ Below w.heap.size w w' := by
  have HLS := Aside0.mk (congoulaw01_list.calls A c l (l.take 15) w hr hc (list_f l (by omega)))
  have hnp : paB (l.take 15) = false := by
    cases h : paB (l.take 15) with
    | false => rfl
    | true => exact absurd (pa_take.mp ((paB_iff _).mp h)) hP
  have HBL := Aside0.mk (fun (W : World) (A1 : Option Addr) (c1 : Nat) (h1 : Kd.C (Kd.int .i64) W A1 (l.take 15).length (l.take 15)) (h2 : (l.take 15).length ≤ c1) => xBelow.calls A1 c1 (l.take 15) [] 2 W h1 h2 (by unfold xBelow.f; rw [if_pos (take15 _), hnp]; rfl))
  have HAW := Aside0.mk (fun (W : World) => congoulaw01_awake.calls 100 true W (awake_f 100 (by omega)))
  clear hr hP hnp
  generalize l.take 15 = lt at *
  go_enter Try.func11, Try.ntmps11
  go_wp2_with (first | (go_at_call 18; refine (HLS.out).mono ?_; rintro e w1 ⟨v1, rfl, ho1, hb1⟩; have HO1 := Aside0.mk ho1; have HB1 := Aside0.mk hb1; obtain ⟨A1, c1, rfl⟩ := Kd.R_slice ho1; clear ho1 hb1) | (go_at_call 43; (with_reducible refine (HBL.out _ A1 c1 (Kd.R_reads' HO1.out).2.2 (Kd.R_reads' HO1.out).2.1).mono ?_); rintro e w2 ⟨v2, rfl, ho2, hb2⟩; have HO2 := Aside0.mk (Kd.R_lower ho2 (below_size HB1.out)); have HB2 := Aside0.mk (below_step HB1.out hb2); obtain ⟨A3, c3, rfl⟩ := Kd.R_slice ho2; clear ho2 hb2) | (go_at_call 21; refine (HAW.out _).mono ?_; rintro e w3 ⟨rfl, hb⟩; have HB3 := Aside0.mk (below_step HB2.out hb); clear hb))
  go_ret
  exact ⟨rfl, HB3.out⟩
set_option maxHeartbeats 32000000 in
set_option maxRecDepth 100000 in
theorem next_good (A : Option Addr) (c : Nat) (l : List Int) (w : World) (hr : Kd.C (Kd.int .i64) w A l.length l) (hc : l.length ≤ c) (hP : Pa l) :
    Calls Try.prog 11 #[.slice A l.length c] w fun e w' => e = .returned (.bool true) ∧ Below w.heap.size w w' := by
  have hlen := hP.len
  have h1 := hP.h1
  have hck := next_of hP
  have hbr := below_rowsN hP
  simp only [chkN, Bool.and_eq_true, List.all_eq_true] at hck
  obtain ⟨hck1, hck2⟩ := hck
  have hstr : (belowU l).Pairwise (fun x y => 0 < cmpL x y) := by
    have h9 := chk_of hP
    simp only [chkB, Bool.and_eq_true] at h9
    exact strict_pw h9.2
  have HR := Aside0.mk hr
  have HLS := Aside0.mk (congoulaw01_list.calls A c l l w hr hc (by have := list_f l (by omega); rwa [pa_same hP] at this))
  have HBL := Aside0.mk (fun (W : World) (A1 : Option Addr) (c1 : Nat) (h1 : Kd.C (Kd.int .i64) W A1 l.length l) (h2 : l.length ≤ c1) => xBelow.calls A1 c1 l (belowU l) 0 W h1 h2 (by unfold xBelow.f; rw [if_pos (by omega), (paB_iff l).mpr hP]; rfl))
  have HPT := Aside0.mk (fun (W : World) (hb : Below w.heap.size w W) => congouref01_Parts.calls 1000 A c l l.sum W (Kd.C_below HR.out hb) hc (by rw [Parts_f l (by omega) 1000 (by omega), dc_true hP]; rfl))
  have HAW := Aside0.mk (fun (W : World) => congoulaw01_awake.calls 100 true W (awake_f 100 (by omega)))
  have hsm := hP.s1
  have hsd : (l.sum == (0 : Int)) = false := beq_eq_false_iff_ne.2 (by omega)
  have HCK := Aside0.mk hck1
  have HPW := Aside0.mk hstr
  have HPR := Aside0.mk (fun r hr => (hbr.2 r hr).1)
  have HPS := Aside0.mk (fun r hr => (hbr.2 r hr).2)
  have HPL := Aside0.mk hP
  have hLn := hbr.1
  have HBX := Aside0.mk (show ∀ i, 0 ≤ l.getD i 0 ∧ l.getD i 0 ≤ 12 from fun i => by
    by_cases h : i < l.length
    · rw [List.getD_eq_getElem?_getD, List.getElem?_eq_getElem h]
      have a1 := hP.pos _ (List.getElem_mem h)
      have a2 := hP.le _ (List.getElem_mem h)
      simp only [Option.getD_some]
      omega
    · rw [List.getD_eq_getElem?_getD, List.getElem?_eq_none (by omega)]; simp)
  have hck3 : decide (0 < (belowU l).length) = decide (1 < l.getD 0 0) := eq_of_beq hck2
  have HFIN := Aside0.mk hck3
  clear hr hP hck1 hck2 hbr hstr hck3
  generalize belowU l = L at *
  generalize hsg : l.sum = s at *
  go_enter Try.func11, Try.ntmps11
  go_wp2_with (first | (go_at_call 18; refine (HLS.out).mono ?_; rintro e w1 ⟨v1, rfl, ho1, hb1⟩; have HO1 := Aside0.mk ho1; have HB1 := Aside0.mk hb1; obtain ⟨A1, c1, rfl⟩ := Kd.R_slice ho1; clear ho1 hb1) | (go_at_call 43; (with_reducible refine (HBL.out _ A1 c1 (Kd.R_reads' HO1.out).2.2 (Kd.R_reads' HO1.out).2.1).mono ?_); rintro e w2 ⟨v2, rfl, ho2, hb2⟩; have HO2 := Aside0.mk (Kd.R_lower ho2 (below_size HB1.out)); have HB2 := Aside0.mk (below_step HB1.out hb2); obtain ⟨A3, c3, rfl⟩ := Kd.R_slice ho2; clear ho2 hb2) | (go_at_call 41; (with_reducible refine (HPT.out _ HB2.out).mono ?_); rintro e w3 ⟨rfl, hdr⟩; have HB3 := Aside0.mk (below_step HB2.out (below_of_drawn hdr)); have HO3 := Aside0.mk (Kd.R_below HO2.out (below_of_drawn hdr)); clear hdr))
  clear HLS HBL HPT HO1 HO2 HB1 HB2
  go_loopw [34] (fun v34 wr => ∃ q : Nat, q ≤ L.length ∧ v34 = .int .i64 q ∧ Aside0 (Kd.R (Kd.slice 3 (Kd.int .i64)) 22 wr w.heap.size (fun _ => True) (.slice A3 L.length c3) L) ∧ Aside0 (Below w.heap.size w wr)) (fun v34 _ => L.length - (intOf v34).toNat)
  case atStart => exact ⟨0, by omega, rfl, HO3, HB3⟩
  case round =>
    clear HO3 HB3
    obtain ⟨q, hq, rfl, HOW, HB⟩ := hrel
    by_cases hlt : q < L.length
    · have hqd : decide ((q : Int) < (L.length : Int)) = true := decide_eq_true (by omega)
      have hqd2 : decide (q < L.length) = true := decide_eq_true hlt
      obtain ⟨ad, Ab, cb, ea, hcell, hleb, hCb⟩ := rows_at HOW.out q hlt
      subst ea
      have hbm := List.getElem_mem hlt
      have hpb := HPR.out L[q] hbm
      have hps := HPS.out L[q] hbm
      have hck := HCK.out L[q] hbm
      obtain ⟨⟨⟨k1, k2⟩, k3⟩, k4⟩ := hck
      have hne : ¬ l = L[q] := fun e => by rw [← e] at k2; simp at k2
      have HCb := Aside0.mk hCb
      have HPB := Aside0.mk hpb
      have HMO := Aside0.mk k3
      have HM13 := Aside0.mk (show mvN l L[q] 13 ≠ none from fun e => by unfold mvOk at k3; rw [e] at k3; cases k3)
      have HDM := Aside0.mk k4
      have HBY := Aside0.mk (show ∀ i, 0 ≤ L[q].getD i 0 ∧ L[q].getD i 0 ≤ 12 from fun i => by
        by_cases h : i < L[q].length
        · rw [List.getD_eq_getElem?_getD, List.getElem?_eq_getElem h]
          have a1 := hpb.pos _ (List.getElem_mem h)
          have a2 := hpb.le _ (List.getElem_mem h)
          simp only [Option.getD_some]
          omega
        · rw [List.getD_eq_getElem?_getD, List.getElem?_eq_none (by omega)]; simp)
      have HPab := Aside0.mk (fun (W : World) (hb : Below wr.heap.size wr W) => congoulaw01_parts.calls 1000 A c l Ab cb L[q] true W (Kd.C_below HR.out (below_step HB.out hb)) hc (Kd.C_below HCb.out hb) hleb (by rw [parts_f l L[q] (by omega) (by have := hpb.len; omega) 1000 (by omega) (by have := hpb.len; omega), dc_true ⟨HPL.out, hpb, by rw [hps, hsg]⟩]))
      have HUab := Aside0.mk (fun (W : World) (hb : Below wr.heap.size wr W) => congouref01_Uneven.calls 1000 A c l Ab cb L[q] true W (Kd.C_below HR.out (below_step HB.out hb)) hc (Kd.C_below HCb.out hb) hleb (by rw [runeven_dom HPL.out hpb 1000 (by omega), k1]))
      have HEab := Aside0.mk (fun (W : World) (hb : Below wr.heap.size wr W) => slices_Equal_int_int.calls 1000 A c l Ab cb L[q] false W (Kd.C_below HR.out (below_step HB.out hb)) hc (Kd.C_below HCb.out hb) hleb (by rw [Equal_f l L[q] (by omega) 1000 (by omega), dc_false hne]))
      clear hCb k1 k2 k3 k4 hne
      by_cases hq0 : 0 < q
      · have hlt' : q - 1 < L.length := by omega
        obtain ⟨ad', Ap, cp, ea', hcp, hlep, hCp⟩ := rows_at HOW.out (q - 1) hlt'
        injection ea' with ea'
        subst ea'
        have hcm : 0 < cmpL L[q - 1] L[q] := List.pairwise_iff_getElem.mp HPW.out (q - 1) q hlt' hlt (by omega)
        have hpp := HPR.out L[q - 1] (List.getElem_mem hlt')
        have HCP := Aside0.mk (fun (W : World) (hb : Below wr.heap.size wr W) => pw_cell_below hb hcp)
        have HCM := Aside0.mk (fun (W : World) (hb : Below wr.heap.size wr W) => slices_Compare_int_int.calls 1000 Ap cp L[q - 1] Ab cb L[q] (cmpL L[q - 1] L[q]) W (Kd.C_below hCp hb) hlep (Kd.C_below HCb.out hb) hleb (Compare_f _ _ (by have := hpp.len; omega) 1000 (by have := hpp.len; omega)))
        have hcd : decide (cmpL L[q - 1] L[q] ≤ 0) = false := decide_eq_false (by omega)
        have hqp : decide ((0 : Int) < (q : Int)) = true := decide_eq_true (by omega)
        have hqp2 : decide (0 < q) = true := decide_eq_true hq0
        have hwq : wrap64 ((q : Int) - 1) = (q : Int) - 1 := by unfold wrap64; omega
        have hq1 : decide ((0 : Int) ≤ (q : Int) - 1) = true := decide_eq_true (by omega)
        have hql : decide ((q : Int) - 1 < (L.length : Int)) = true := decide_eq_true (by omega)
        clear hcm hpp hCp hcp
        generalize cmpL L[q - 1] L[q] = cm at *
        generalize L[q - 1] = pr at *
        generalize L[q] = b at *
        have HQ := Aside0.mk (Below.refl wr.heap.size wr)
        go_wp2_with (first | (go_at_call 30; (with_reducible refine (HPab.out _ HQ.out).mono ?_); rintro e w5 ⟨rfl, hdr⟩; replace HQ := Aside0.mk (below_step HQ.out (below_of_drawn hdr)); clear hdr) | (go_at_call 24; (with_reducible refine (HUab.out _ HQ.out).mono ?_); rintro e w5 ⟨rfl, hb⟩; replace HQ := Aside0.mk (below_step HQ.out hb); clear hb) | (go_at_call 31; (with_reducible refine (HEab.out _ HQ.out).mono ?_); rintro e w5 ⟨rfl, hdr⟩; replace HQ := Aside0.mk (below_step HQ.out (below_of_drawn hdr)); have hcp := HCP.out _ HQ.out; clear hdr) | (go_at_call 44; (with_reducible refine (HCM.out _ HQ.out).mono ?_); rintro e w5 ⟨rfl, hdr⟩; replace HQ := Aside0.mk (below_step HQ.out (below_of_drawn hdr)); clear hdr hcp))
        go_loopw [7, 8, 68] (fun v7 v8 v68 wq => ∃ i : Nat, ∃ lo mo : Int, i ≤ 13 ∧ v7 = .int .i64 lo ∧ v8 = .int .i64 mo ∧ v68 = .int .i64 i ∧ Aside0 (mvN l b i = some (lo, mo)) ∧ Aside0 (Below wr.heap.size wr wq)) (fun _ _ v68 _ => 13 - (intOf v68).toNat)
        case atStart => exact ⟨0, -1, -1, by omega, rfl, rfl, rfl, ⟨rfl⟩, HQ⟩
        case round =>
          clear HQ
          obtain ⟨i, lo, mo, hi, rfl, rfl, rfl, HMV, HQ⟩ := hrel
          by_cases hil : i < 13
          · have hid : decide ((i : Int) < 13) = true := decide_eq_true (by omega)
            have hst := mvN_step HMV.out (mvN_le (12 - i) (i + 1) (by omega) HM13.out)
            clear HMV
            have hbx := HBX.out i
            have hby := HBY.out i
            obtain ⟨x, hx⟩ : ∃ x, x = l.getD i 0 := ⟨_, rfl⟩
            obtain ⟨y, hy⟩ : ∃ y, y = b.getD i 0 := ⟨_, rfl⟩
            rw [← hx] at hbx
            rw [← hy] at hby
            rw [← hx, ← hy] at hst
            by_cases hia : i < l.length
            · have hiad : decide ((i : Int) < (l.length : Int)) = true := decide_eq_true (by omega)
              have hiad2 : decide (i < l.length) = true := decide_eq_true (by omega)
              obtain ⟨ada, ea, hxa⟩ := Kd.at_int (Kd.C_below HR.out (below_step HB.out HQ.out)) (i : Int) (by omega) (by omega)
              subst ea
              rw [Int.toNat_natCast, rd_getD, ← hx] at hxa
              by_cases hib : i < b.length
              · have hibd : decide ((i : Int) < (b.length : Int)) = true := decide_eq_true (by omega)
                have hibd2 : decide (i < b.length) = true := decide_eq_true (by omega)
                obtain ⟨adb, eb, hxb⟩ := Kd.at_int (Kd.C_below HCb.out HQ.out) (i : Int) (by omega) (by omega)
                subst eb
                rw [Int.toNat_natCast, rd_getD, ← hy] at hxb
                clear hx
                clear hy
                rcases hst with ⟨⟨h1, h2⟩, hn⟩ | ⟨⟨h1, h2, h3⟩, hn⟩ | ⟨h1, hn⟩
                · have HNX := Aside0.mk hn
                  have e1 : wrap64 (y + 1) = y + 1 := w64 (by omega) (by omega)
                  have e2 : (x == y + 1) = true := by simp [h1]
                  have e2d : decide (x = y + 1) = true := decide_eq_true h1
                  have e3 : decide (lo < 0) = true := decide_eq_true h2
                  clear hn
                  go_wp2
                  go_roundw
                  case rel => exact ⟨i + 1, _, _, by omega, rfl, rfl, by go_num, HNX, HQ⟩
                  case measure => simp [intOf]; omega
                · have HNX := Aside0.mk hn
                  have e1 : wrap64 (y + 1) = y + 1 := w64 (by omega) (by omega)
                  have e1x : wrap64 (x + 1) = x + 1 := w64 (by omega) (by omega)
                  have e2 : (x == y + 1) = false := beq_eq_false_iff_ne.2 h1
                  have e2d : decide (x = y + 1) = false := decide_eq_false h1
                  have e4 : (y == x + 1) = true := by simp [h2]
                  have e4d : decide (y = x + 1) = true := decide_eq_true h2
                  have e3 : decide (mo < 0) = true := decide_eq_true h3
                  clear hn
                  go_wp2
                  go_roundw
                  case rel => exact ⟨i + 1, _, _, by omega, rfl, rfl, by go_num, HNX, HQ⟩
                  case measure => simp [intOf]; omega
                · have HNX := Aside0.mk hn
                  have e1 : wrap64 (y + 1) = y + 1 := w64 (by omega) (by omega)
                  have e1x : wrap64 (x + 1) = x + 1 := w64 (by omega) (by omega)
                  have e2 : (x == y + 1) = false := beq_eq_false_iff_ne.2 (by omega)
                  have e2d : decide (x = y + 1) = false := decide_eq_false (by omega)
                  have e4 : (y == x + 1) = false := beq_eq_false_iff_ne.2 (by omega)
                  have e4d : decide (y = x + 1) = false := decide_eq_false (by omega)
                  have e5 : (x != y) = false := by simp [h1]
                  clear hn
                  go_wp2
                  go_roundw
                  case rel => exact ⟨i + 1, _, _, by omega, rfl, rfl, by go_num, HNX, HQ⟩
                  case measure => simp [intOf]; omega
              · have hibd : decide ((i : Int) < (b.length : Int)) = false := decide_eq_false (by omega)
                have hibd2 : decide (i < b.length) = false := decide_eq_false (by omega)
                have hy0 : b.getD i 0 = 0 := by rw [List.getD_eq_getElem?_getD, List.getElem?_eq_none (by omega)]; rfl
                clear hx
                rw [hy0] at hy
                clear hy0
                rcases hst with ⟨⟨h1, h2⟩, hn⟩ | ⟨⟨h1, h2, h3⟩, hn⟩ | ⟨h1, hn⟩
                · have HNX := Aside0.mk hn
                  clear hn
                  subst hy
                  obtain rfl : x = 1 := by omega
                  have e3 : decide (lo < 0) = true := decide_eq_true h2
                  clear h1
                  go_wp2
                  go_roundw
                  case rel => exact ⟨i + 1, _, _, by omega, rfl, rfl, by go_num, HNX, HQ⟩
                  case measure => simp [intOf]; omega
                · exact absurd h2 (by omega)
                · have HNX := Aside0.mk hn
                  clear hn
                  subst hy
                  subst h1
                  go_wp2
                  go_roundw
                  case rel => exact ⟨i + 1, _, _, by omega, rfl, rfl, by go_num, HNX, HQ⟩
                  case measure => simp [intOf]; omega
            · have hiad : decide ((i : Int) < (l.length : Int)) = false := decide_eq_false (by omega)
              have hiad2 : decide (i < l.length) = false := decide_eq_false (by omega)
              have hx0 : l.getD i 0 = 0 := by rw [List.getD_eq_getElem?_getD, List.getElem?_eq_none (by omega)]; rfl
              by_cases hib : i < b.length
              · have hibd : decide ((i : Int) < (b.length : Int)) = true := decide_eq_true (by omega)
                have hibd2 : decide (i < b.length) = true := decide_eq_true (by omega)
                obtain ⟨adb, eb, hxb⟩ := Kd.at_int (Kd.C_below HCb.out HQ.out) (i : Int) (by omega) (by omega)
                subst eb
                rw [Int.toNat_natCast, rd_getD, ← hy] at hxb
                rw [hx0] at hx
                clear hx0
                clear hy
                rcases hst with ⟨⟨h1, h2⟩, hn⟩ | ⟨⟨h1, h2, h3⟩, hn⟩ | ⟨h1, hn⟩
                · exact absurd h1 (by omega)
                · have HNX := Aside0.mk hn
                  clear hn
                  subst hx
                  obtain rfl : y = 1 := by omega
                  have e3 : decide (mo < 0) = true := decide_eq_true h3
                  clear h1 h2
                  go_wp2
                  go_roundw
                  case rel => exact ⟨i + 1, _, _, by omega, rfl, rfl, by go_num, HNX, HQ⟩
                  case measure => simp [intOf]; omega
                · have HNX := Aside0.mk hn
                  clear hn
                  subst hx
                  obtain rfl : y = 0 := by omega
                  go_wp2
                  go_roundw
                  case rel => exact ⟨i + 1, _, _, by omega, rfl, rfl, by go_num, HNX, HQ⟩
                  case measure => simp [intOf]; omega
              · have hibd : decide ((i : Int) < (b.length : Int)) = false := decide_eq_false (by omega)
                have hibd2 : decide (i < b.length) = false := decide_eq_false (by omega)
                have hy0 : b.getD i 0 = 0 := by rw [List.getD_eq_getElem?_getD, List.getElem?_eq_none (by omega)]; rfl
                rw [hx0] at hx
                clear hx0
                rw [hy0] at hy
                clear hy0
                rcases hst with ⟨⟨h1, h2⟩, hn⟩ | ⟨⟨h1, h2, h3⟩, hn⟩ | ⟨h1, hn⟩
                · exact absurd h1 (by omega)
                · exact absurd h2 (by omega)
                · have HNX := Aside0.mk hn
                  clear hn
                  subst hx
                  subst hy
                  go_wp2
                  go_roundw
                  case rel => exact ⟨i + 1, _, _, by omega, rfl, rfl, by go_num, HNX, HQ⟩
                  case measure => simp [intOf]; omega
          · have hid : decide ((i : Int) < 13) = false := decide_eq_false (by omega)
            obtain rfl : i = 13 := by omega
            have hmo := HMO.out
            unfold mvOk at hmo
            rw [HMV.out] at hmo
            simp only [Bool.and_eq_true, decide_eq_true_eq] at hmo
            have hd1 : decide (lo < 0) = false := decide_eq_false (by omega)
            have hd2 : decide (mo < lo) = false := decide_eq_false (by omega)
            clear HMV hmo
            replace HOW := Aside0.mk (Kd.R_below HOW.out HQ.out)
            go_wp2
            go_loopw [121] (fun v121 wq => ∃ i : Nat, i ≤ L.length ∧ v121 = .int .i64 i ∧ Aside0 (Kd.R (Kd.slice 3 (Kd.int .i64)) 22 wq w.heap.size (fun _ => True) (.slice (some ad) L.length c3) L) ∧ Aside0 (Kd.C (Kd.int .i64) wq Ab b.length b) ∧ Aside0 (Below w.heap.size w wq)) (fun v121 _ => L.length - (intOf v121).toNat)
            case atStart => exact ⟨0, by omega, rfl, HOW, ⟨Kd.C_below HCb.out HQ.out⟩, ⟨below_step HB.out HQ.out⟩⟩
            case round =>
              clear HQ HOW HB HUab HEab HPab HCb hcell
              obtain ⟨i, hi, rfl, HO5, HBR5, HB5⟩ := hrel
              by_cases hil : i < L.length
              · have hid : decide ((i : Int) < (L.length : Int)) = true := decide_eq_true (by omega)
                have hid2 : decide (i < L.length) = true := decide_eq_true hil
                obtain ⟨ad2, Ad, cd, e2, hcd, hled, hCd⟩ := rows_at HO5.out i hil
                injection e2 with e2
                subst e2
                have hdm := HDM.out L[i] (List.getElem_mem hil)
                have HCd := Aside0.mk hCd
                have HEbd := Aside0.mk (fun (W : World) (hb : Below wr.heap.size wr W) => slices_Equal_int_int.calls 1000 Ab cb b Ad cd L[i] (dc (b = L[i])) W (Kd.C_below HBR5.out hb) hleb (Kd.C_below HCd.out hb) hled (Equal_f b L[i] (by have := HPB.out.len; omega) 1000 (by have := HPB.out.len; omega)))
                have HUbd := Aside0.mk (fun (W : World) (hb : Below wr.heap.size wr W) => congouref01_Uneven.calls 1000 Ab cb b Ad cd L[i] (domB b L[i]) W (Kd.C_below HBR5.out hb) hleb (Kd.C_below HCd.out hb) hled (runeven_dom HPB.out (HPR.out L[i] (List.getElem_mem hil)) 1000 (by omega)))
                have HQ := Aside0.mk (Below.refl wr.heap.size wr)
                clear hCd
                generalize L[i] = d at *
                cases heq : (b == d) with
                | true =>
                  have e9 : b = d := eq_of_beq heq
                  rw [dc_true e9] at HEbd
                  clear heq hdm HUbd e9
                  go_wp2_with (first | (go_at_call 31; (with_reducible refine (HEbd.out _ HQ.out).mono ?_); rintro e w5 ⟨rfl, hdr⟩; replace HQ := Aside0.mk (below_step HQ.out (below_of_drawn hdr)); clear hdr))
                  go_roundw
                  case rel => first | exact ⟨i + 1, by omega, by go_num, ⟨Kd.R_below HO5.out HQ.out⟩, ⟨Kd.C_below HBR5.out HQ.out⟩, ⟨below_step HB5.out HQ.out⟩⟩ | exact ⟨_, _, _, _, _, _, _, _, _, _, _, _, _, _, _, _, ⟨i + 1, by omega, by go_num, ⟨Kd.R_below HO5.out HQ.out⟩, ⟨Kd.C_below HBR5.out HQ.out⟩, ⟨below_step HB5.out HQ.out⟩⟩, rfl⟩
                  case measure => simp [intOf]; omega
                | false =>
                  have e9 : ¬ b = d := fun e => by rw [e, beq_self_eq_true] at heq; cases heq
                  rw [dc_false e9] at HEbd
                  have hdf : domB b d = false := by rw [heq] at hdm; simpa using hdm
                  rw [hdf] at HUbd
                  clear heq hdm hdf e9
                  go_wp2_with (first | (go_at_call 31; (with_reducible refine (HEbd.out _ HQ.out).mono ?_); rintro e w5 ⟨rfl, hdr⟩; replace HQ := Aside0.mk (below_step HQ.out (below_of_drawn hdr)); clear hdr) | (go_at_call 24; (with_reducible refine (HUbd.out _ HQ.out).mono ?_); rintro e w5 ⟨rfl, hb⟩; replace HQ := Aside0.mk (below_step HQ.out hb); clear hb))
                  go_roundw
                  case rel => first | exact ⟨i + 1, by omega, by go_num, ⟨Kd.R_below HO5.out HQ.out⟩, ⟨Kd.C_below HBR5.out HQ.out⟩, ⟨below_step HB5.out HQ.out⟩⟩ | exact ⟨_, _, _, _, _, _, _, _, _, _, _, _, _, _, _, _, ⟨i + 1, by omega, by go_num, ⟨Kd.R_below HO5.out HQ.out⟩, ⟨Kd.C_below HBR5.out HQ.out⟩, ⟨below_step HB5.out HQ.out⟩⟩, rfl⟩
                  case measure => simp [intOf]; omega
              · have hid : decide ((i : Int) < (L.length : Int)) = false := decide_eq_false (by omega)
                have hid2 : decide (i < L.length) = false := decide_eq_false hil
                go_wp2
                go_roundw
                case rel => exact ⟨q + 1, by omega, by go_num, HO5, HB5⟩
                case measure => simp [intOf]; omega
      · have hqp : decide ((0 : Int) < (q : Int)) = false := decide_eq_false (by omega)
        have hqp2 : decide (0 < q) = false := decide_eq_false hq0
        generalize L[q] = b at *
        have HQ := Aside0.mk (Below.refl wr.heap.size wr)
        go_wp2_with (first | (go_at_call 30; (with_reducible refine (HPab.out _ HQ.out).mono ?_); rintro e w5 ⟨rfl, hdr⟩; replace HQ := Aside0.mk (below_step HQ.out (below_of_drawn hdr)); clear hdr) | (go_at_call 24; (with_reducible refine (HUab.out _ HQ.out).mono ?_); rintro e w5 ⟨rfl, hb⟩; replace HQ := Aside0.mk (below_step HQ.out hb); clear hb) | (go_at_call 31; (with_reducible refine (HEab.out _ HQ.out).mono ?_); rintro e w5 ⟨rfl, hdr⟩; replace HQ := Aside0.mk (below_step HQ.out (below_of_drawn hdr)); clear hdr))
        go_loopw [7, 8, 68] (fun v7 v8 v68 wq => ∃ i : Nat, ∃ lo mo : Int, i ≤ 13 ∧ v7 = .int .i64 lo ∧ v8 = .int .i64 mo ∧ v68 = .int .i64 i ∧ Aside0 (mvN l b i = some (lo, mo)) ∧ Aside0 (Below wr.heap.size wr wq)) (fun _ _ v68 _ => 13 - (intOf v68).toNat)
        case atStart => exact ⟨0, -1, -1, by omega, rfl, rfl, rfl, ⟨rfl⟩, HQ⟩
        case round =>
          clear HQ
          obtain ⟨i, lo, mo, hi, rfl, rfl, rfl, HMV, HQ⟩ := hrel
          by_cases hil : i < 13
          · have hid : decide ((i : Int) < 13) = true := decide_eq_true (by omega)
            have hst := mvN_step HMV.out (mvN_le (12 - i) (i + 1) (by omega) HM13.out)
            clear HMV
            have hbx := HBX.out i
            have hby := HBY.out i
            obtain ⟨x, hx⟩ : ∃ x, x = l.getD i 0 := ⟨_, rfl⟩
            obtain ⟨y, hy⟩ : ∃ y, y = b.getD i 0 := ⟨_, rfl⟩
            rw [← hx] at hbx
            rw [← hy] at hby
            rw [← hx, ← hy] at hst
            by_cases hia : i < l.length
            · have hiad : decide ((i : Int) < (l.length : Int)) = true := decide_eq_true (by omega)
              have hiad2 : decide (i < l.length) = true := decide_eq_true (by omega)
              obtain ⟨ada, ea, hxa⟩ := Kd.at_int (Kd.C_below HR.out (below_step HB.out HQ.out)) (i : Int) (by omega) (by omega)
              subst ea
              rw [Int.toNat_natCast, rd_getD, ← hx] at hxa
              by_cases hib : i < b.length
              · have hibd : decide ((i : Int) < (b.length : Int)) = true := decide_eq_true (by omega)
                have hibd2 : decide (i < b.length) = true := decide_eq_true (by omega)
                obtain ⟨adb, eb, hxb⟩ := Kd.at_int (Kd.C_below HCb.out HQ.out) (i : Int) (by omega) (by omega)
                subst eb
                rw [Int.toNat_natCast, rd_getD, ← hy] at hxb
                clear hx
                clear hy
                rcases hst with ⟨⟨h1, h2⟩, hn⟩ | ⟨⟨h1, h2, h3⟩, hn⟩ | ⟨h1, hn⟩
                · have HNX := Aside0.mk hn
                  have e1 : wrap64 (y + 1) = y + 1 := w64 (by omega) (by omega)
                  have e2 : (x == y + 1) = true := by simp [h1]
                  have e2d : decide (x = y + 1) = true := decide_eq_true h1
                  have e3 : decide (lo < 0) = true := decide_eq_true h2
                  clear hn
                  go_wp2
                  go_roundw
                  case rel => exact ⟨i + 1, _, _, by omega, rfl, rfl, by go_num, HNX, HQ⟩
                  case measure => simp [intOf]; omega
                · have HNX := Aside0.mk hn
                  have e1 : wrap64 (y + 1) = y + 1 := w64 (by omega) (by omega)
                  have e1x : wrap64 (x + 1) = x + 1 := w64 (by omega) (by omega)
                  have e2 : (x == y + 1) = false := beq_eq_false_iff_ne.2 h1
                  have e2d : decide (x = y + 1) = false := decide_eq_false h1
                  have e4 : (y == x + 1) = true := by simp [h2]
                  have e4d : decide (y = x + 1) = true := decide_eq_true h2
                  have e3 : decide (mo < 0) = true := decide_eq_true h3
                  clear hn
                  go_wp2
                  go_roundw
                  case rel => exact ⟨i + 1, _, _, by omega, rfl, rfl, by go_num, HNX, HQ⟩
                  case measure => simp [intOf]; omega
                · have HNX := Aside0.mk hn
                  have e1 : wrap64 (y + 1) = y + 1 := w64 (by omega) (by omega)
                  have e1x : wrap64 (x + 1) = x + 1 := w64 (by omega) (by omega)
                  have e2 : (x == y + 1) = false := beq_eq_false_iff_ne.2 (by omega)
                  have e2d : decide (x = y + 1) = false := decide_eq_false (by omega)
                  have e4 : (y == x + 1) = false := beq_eq_false_iff_ne.2 (by omega)
                  have e4d : decide (y = x + 1) = false := decide_eq_false (by omega)
                  have e5 : (x != y) = false := by simp [h1]
                  clear hn
                  go_wp2
                  go_roundw
                  case rel => exact ⟨i + 1, _, _, by omega, rfl, rfl, by go_num, HNX, HQ⟩
                  case measure => simp [intOf]; omega
              · have hibd : decide ((i : Int) < (b.length : Int)) = false := decide_eq_false (by omega)
                have hibd2 : decide (i < b.length) = false := decide_eq_false (by omega)
                have hy0 : b.getD i 0 = 0 := by rw [List.getD_eq_getElem?_getD, List.getElem?_eq_none (by omega)]; rfl
                clear hx
                rw [hy0] at hy
                clear hy0
                rcases hst with ⟨⟨h1, h2⟩, hn⟩ | ⟨⟨h1, h2, h3⟩, hn⟩ | ⟨h1, hn⟩
                · have HNX := Aside0.mk hn
                  clear hn
                  subst hy
                  obtain rfl : x = 1 := by omega
                  have e3 : decide (lo < 0) = true := decide_eq_true h2
                  clear h1
                  go_wp2
                  go_roundw
                  case rel => exact ⟨i + 1, _, _, by omega, rfl, rfl, by go_num, HNX, HQ⟩
                  case measure => simp [intOf]; omega
                · exact absurd h2 (by omega)
                · have HNX := Aside0.mk hn
                  clear hn
                  subst hy
                  subst h1
                  go_wp2
                  go_roundw
                  case rel => exact ⟨i + 1, _, _, by omega, rfl, rfl, by go_num, HNX, HQ⟩
                  case measure => simp [intOf]; omega
            · have hiad : decide ((i : Int) < (l.length : Int)) = false := decide_eq_false (by omega)
              have hiad2 : decide (i < l.length) = false := decide_eq_false (by omega)
              have hx0 : l.getD i 0 = 0 := by rw [List.getD_eq_getElem?_getD, List.getElem?_eq_none (by omega)]; rfl
              by_cases hib : i < b.length
              · have hibd : decide ((i : Int) < (b.length : Int)) = true := decide_eq_true (by omega)
                have hibd2 : decide (i < b.length) = true := decide_eq_true (by omega)
                obtain ⟨adb, eb, hxb⟩ := Kd.at_int (Kd.C_below HCb.out HQ.out) (i : Int) (by omega) (by omega)
                subst eb
                rw [Int.toNat_natCast, rd_getD, ← hy] at hxb
                rw [hx0] at hx
                clear hx0
                clear hy
                rcases hst with ⟨⟨h1, h2⟩, hn⟩ | ⟨⟨h1, h2, h3⟩, hn⟩ | ⟨h1, hn⟩
                · exact absurd h1 (by omega)
                · have HNX := Aside0.mk hn
                  clear hn
                  subst hx
                  obtain rfl : y = 1 := by omega
                  have e3 : decide (mo < 0) = true := decide_eq_true h3
                  clear h1 h2
                  go_wp2
                  go_roundw
                  case rel => exact ⟨i + 1, _, _, by omega, rfl, rfl, by go_num, HNX, HQ⟩
                  case measure => simp [intOf]; omega
                · have HNX := Aside0.mk hn
                  clear hn
                  subst hx
                  obtain rfl : y = 0 := by omega
                  go_wp2
                  go_roundw
                  case rel => exact ⟨i + 1, _, _, by omega, rfl, rfl, by go_num, HNX, HQ⟩
                  case measure => simp [intOf]; omega
              · have hibd : decide ((i : Int) < (b.length : Int)) = false := decide_eq_false (by omega)
                have hibd2 : decide (i < b.length) = false := decide_eq_false (by omega)
                have hy0 : b.getD i 0 = 0 := by rw [List.getD_eq_getElem?_getD, List.getElem?_eq_none (by omega)]; rfl
                rw [hx0] at hx
                clear hx0
                rw [hy0] at hy
                clear hy0
                rcases hst with ⟨⟨h1, h2⟩, hn⟩ | ⟨⟨h1, h2, h3⟩, hn⟩ | ⟨h1, hn⟩
                · exact absurd h1 (by omega)
                · exact absurd h2 (by omega)
                · have HNX := Aside0.mk hn
                  clear hn
                  subst hx
                  subst hy
                  go_wp2
                  go_roundw
                  case rel => exact ⟨i + 1, _, _, by omega, rfl, rfl, by go_num, HNX, HQ⟩
                  case measure => simp [intOf]; omega
          · have hid : decide ((i : Int) < 13) = false := decide_eq_false (by omega)
            obtain rfl : i = 13 := by omega
            have hmo := HMO.out
            unfold mvOk at hmo
            rw [HMV.out] at hmo
            simp only [Bool.and_eq_true, decide_eq_true_eq] at hmo
            have hd1 : decide (lo < 0) = false := decide_eq_false (by omega)
            have hd2 : decide (mo < lo) = false := decide_eq_false (by omega)
            clear HMV hmo
            replace HOW := Aside0.mk (Kd.R_below HOW.out HQ.out)
            go_wp2
            go_loopw [121] (fun v121 wq => ∃ i : Nat, i ≤ L.length ∧ v121 = .int .i64 i ∧ Aside0 (Kd.R (Kd.slice 3 (Kd.int .i64)) 22 wq w.heap.size (fun _ => True) (.slice (some ad) L.length c3) L) ∧ Aside0 (Kd.C (Kd.int .i64) wq Ab b.length b) ∧ Aside0 (Below w.heap.size w wq)) (fun v121 _ => L.length - (intOf v121).toNat)
            case atStart => exact ⟨0, by omega, rfl, HOW, ⟨Kd.C_below HCb.out HQ.out⟩, ⟨below_step HB.out HQ.out⟩⟩
            case round =>
              clear HQ HOW HB HUab HEab HPab HCb hcell
              obtain ⟨i, hi, rfl, HO5, HBR5, HB5⟩ := hrel
              by_cases hil : i < L.length
              · have hid : decide ((i : Int) < (L.length : Int)) = true := decide_eq_true (by omega)
                have hid2 : decide (i < L.length) = true := decide_eq_true hil
                obtain ⟨ad2, Ad, cd, e2, hcd, hled, hCd⟩ := rows_at HO5.out i hil
                injection e2 with e2
                subst e2
                have hdm := HDM.out L[i] (List.getElem_mem hil)
                have HCd := Aside0.mk hCd
                have HEbd := Aside0.mk (fun (W : World) (hb : Below wr.heap.size wr W) => slices_Equal_int_int.calls 1000 Ab cb b Ad cd L[i] (dc (b = L[i])) W (Kd.C_below HBR5.out hb) hleb (Kd.C_below HCd.out hb) hled (Equal_f b L[i] (by have := HPB.out.len; omega) 1000 (by have := HPB.out.len; omega)))
                have HUbd := Aside0.mk (fun (W : World) (hb : Below wr.heap.size wr W) => congouref01_Uneven.calls 1000 Ab cb b Ad cd L[i] (domB b L[i]) W (Kd.C_below HBR5.out hb) hleb (Kd.C_below HCd.out hb) hled (runeven_dom HPB.out (HPR.out L[i] (List.getElem_mem hil)) 1000 (by omega)))
                have HQ := Aside0.mk (Below.refl wr.heap.size wr)
                clear hCd
                generalize L[i] = d at *
                cases heq : (b == d) with
                | true =>
                  have e9 : b = d := eq_of_beq heq
                  rw [dc_true e9] at HEbd
                  clear heq hdm HUbd e9
                  go_wp2_with (first | (go_at_call 31; (with_reducible refine (HEbd.out _ HQ.out).mono ?_); rintro e w5 ⟨rfl, hdr⟩; replace HQ := Aside0.mk (below_step HQ.out (below_of_drawn hdr)); clear hdr))
                  go_roundw
                  case rel => first | exact ⟨i + 1, by omega, by go_num, ⟨Kd.R_below HO5.out HQ.out⟩, ⟨Kd.C_below HBR5.out HQ.out⟩, ⟨below_step HB5.out HQ.out⟩⟩ | exact ⟨_, _, _, _, _, _, _, _, _, _, _, _, _, _, _, _, ⟨i + 1, by omega, by go_num, ⟨Kd.R_below HO5.out HQ.out⟩, ⟨Kd.C_below HBR5.out HQ.out⟩, ⟨below_step HB5.out HQ.out⟩⟩, rfl⟩
                  case measure => simp [intOf]; omega
                | false =>
                  have e9 : ¬ b = d := fun e => by rw [e, beq_self_eq_true] at heq; cases heq
                  rw [dc_false e9] at HEbd
                  have hdf : domB b d = false := by rw [heq] at hdm; simpa using hdm
                  rw [hdf] at HUbd
                  clear heq hdm hdf e9
                  go_wp2_with (first | (go_at_call 31; (with_reducible refine (HEbd.out _ HQ.out).mono ?_); rintro e w5 ⟨rfl, hdr⟩; replace HQ := Aside0.mk (below_step HQ.out (below_of_drawn hdr)); clear hdr) | (go_at_call 24; (with_reducible refine (HUbd.out _ HQ.out).mono ?_); rintro e w5 ⟨rfl, hb⟩; replace HQ := Aside0.mk (below_step HQ.out hb); clear hb))
                  go_roundw
                  case rel => first | exact ⟨i + 1, by omega, by go_num, ⟨Kd.R_below HO5.out HQ.out⟩, ⟨Kd.C_below HBR5.out HQ.out⟩, ⟨below_step HB5.out HQ.out⟩⟩ | exact ⟨_, _, _, _, _, _, _, _, _, _, _, _, _, _, _, _, ⟨i + 1, by omega, by go_num, ⟨Kd.R_below HO5.out HQ.out⟩, ⟨Kd.C_below HBR5.out HQ.out⟩, ⟨below_step HB5.out HQ.out⟩⟩, rfl⟩
                  case measure => simp [intOf]; omega
              · have hid : decide ((i : Int) < (L.length : Int)) = false := decide_eq_false (by omega)
                have hid2 : decide (i < L.length) = false := decide_eq_false hil
                go_wp2
                go_roundw
                case rel => exact ⟨q + 1, by omega, by go_num, HO5, HB5⟩
                case measure => simp [intOf]; omega
    · have hqd : decide ((q : Int) < (L.length : Int)) = false := decide_eq_false (by omega)
      have hqd2 : decide (q < L.length) = false := decide_eq_false hlt
      obtain rfl : q = L.length := by omega
      obtain ⟨ada, eaa, hxa⟩ := Kd.at_int (Kd.C_below HR.out HB.out) 0 (by omega) (by omega)
      subst eaa
      have hxa0 : ada.add (0 : Int).toNat = ada := by cases ada; simp [Addr.add]
      rw [show (rd l 0) = l.getD 0 0 from rfl, hxa0] at hxa
      clear hxa0
      have hfin := HFIN.out
      have HAB := Aside0.mk (HAW.out)
      generalize l.getD 0 0 = x0 at *
      by_cases hn0 : 0 < L.length
      · have f1 : decide ((0 : Int) < (L.length : Int)) = true := decide_eq_true (by omega)
        have f1n : decide (0 < L.length) = true := decide_eq_true hn0
        rw [f1n] at hfin
        have f2 : decide (1 < x0) = true := hfin.symm
        clear hfin
        go_wp2_with (first | (go_at_call 21; refine (HAB.out _).mono ?_; rintro e w9 ⟨rfl, hb⟩; have HB9 := Aside0.mk (below_step HB.out hb); clear hb))
        go_ret
        exact ⟨rfl, HB9.out⟩
      · have f1 : decide ((0 : Int) < (L.length : Int)) = false := decide_eq_false (by omega)
        have f1n : decide (0 < L.length) = false := decide_eq_false hn0
        rw [f1n] at hfin
        have f2 : decide (1 < x0) = false := hfin.symm
        clear hfin
        go_wp2_with (first | (go_at_call 21; refine (HAB.out _).mono ?_; rintro e w9 ⟨rfl, hb⟩; have HB9 := Aside0.mk (below_step HB.out hb); clear hb))
        go_ret
        exact ⟨rfl, HB9.out⟩
end Go.Proofs.Ytefmafbbnkkpjaa.X
