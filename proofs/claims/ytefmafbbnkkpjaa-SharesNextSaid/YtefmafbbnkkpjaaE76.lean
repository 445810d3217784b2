/- The walk of lower: all parts that come of one moved from a number to a later one. -/
import Derived.Test.YtefmafbbnkkpjaaE101
import Derived.Test.YtefmafbbnkkpjaaSM
import Derived.Test.YtefmafbbnkkpjaaSD
namespace Go.Proofs.Ytefmafbbnkkpjaa.X
open Go.Proofs.Ytefmafbbnkkpjaa.Pure Go.RowKit Go.Shelf Go.Proofs.YtefmafbbnkkpjaaW.PrintWords Go.Proofs.YtefmafbbnkkpjaaW.PrintLast Go.Proofs.YtefmafbbnkkpjaaW.PrintMore
set_option linter.unusedVariables false
set_option linter.unusedSimpArgs false

def descB : List Int → Bool
  | a :: b :: r => decide (b ≤ a) && descB (b :: r)
  | _ => true
theorem descB_iff : ∀ l : List Int, descB l = true ↔ Desc l
  | [] => by simp [descB, Desc]
  | [a] => by simp [descB, Desc]
  | a :: b :: r => by
    have ih := descB_iff (b :: r)
    rw [descB, Bool.and_eq_true, decide_eq_true_iff, ih]
    constructor
    · rintro ⟨h1, h2⟩
      refine List.pairwise_cons.mpr ⟨fun x hx => ?_, h2⟩
      rcases List.mem_cons.mp hx with rfl | hx
      · exact h1
      · have := (List.pairwise_cons.mp h2).1 x hx
        omega
    · intro h
      exact ⟨(List.pairwise_cons.mp h).1 b (by simp), (List.pairwise_cons.mp h).2⟩
theorem dc_desc (l : List Int) : dc (Desc l) = descB l := by
  cases h : descB l with
  | true => exact dc_true ((descB_iff l).mp h)
  | false => exact dc_false (fun hd => by rw [(descB_iff l).mpr hd] at h; cases h)
def okM (pa : List Int) (i j : Nat) : Bool := descB (give pa i j 1) && decide (0 < (give pa i j 1).getD i 0)
def rowM (pa : List Int) (i j : Nat) : List (List Int) := if okM pa i j = true then [(give pa i j 1).filter nzI] else []
def lowJ (pa : List Int) (i j : Nat) : List (List Int) := (List.range j).flatMap fun q => if i < q then rowM pa i q else []
def lowI (pa : List Int) (i : Nat) : List (List Int) := (List.range i).flatMap fun p => lowJ pa p pa.length
def lowU (a : List Int) : List (List Int) := lowI (a ++ [0]) (a.length + 1)
theorem lowJ_succ (pa : List Int) (i j : Nat) (h : i < j) : lowJ pa i (j + 1) = lowJ pa i j ++ rowM pa i j := by
  unfold lowJ
  rw [List.range_succ, List.flatMap_append]
  simp [h]
theorem lowJ_start (pa : List Int) (i j : Nat) (h : j ≤ i + 1) : lowJ pa i j = [] := by
  unfold lowJ
  rw [List.flatMap_eq_nil_iff]
  intro q hq
  rw [List.mem_range] at hq
  rw [if_neg (by omega)]
theorem lowI_succ (pa : List Int) (i : Nat) : lowI pa (i + 1) = lowI pa i ++ lowJ pa i pa.length := by
  unfold lowI
  rw [List.range_succ, List.flatMap_append]
  simp
theorem rowM_len (pa : List Int) (i j : Nat) : (rowM pa i j).length ≤ 1 := by unfold rowM; split <;> simp
theorem lowJ_len (pa : List Int) (i j : Nat) : (lowJ pa i j).length ≤ j := by
  induction j with
  | zero => simp [lowJ]
  | succ j ih =>
    by_cases h : i < j
    · rw [lowJ_succ pa i j h, List.length_append]
      have := rowM_len pa i j
      omega
    · rw [lowJ_start pa i (j + 1) (by omega)]
      simp
theorem lowI_len (pa : List Int) (i : Nat) : (lowI pa i).length ≤ i * pa.length := by
  induction i with
  | zero => simp [lowI]
  | succ i ih =>
    rw [lowI_succ, List.length_append, Nat.succ_mul]
    have := lowJ_len pa i pa.length
    omega
theorem put_int {W : World} {base g n cap : Nat} {ok : Nat → Prop} {xs : List Int} (h : Kd.R (Kd.int .i64) 3 W base ok (.slice (some ⟨g, 0, none⟩) n cap) xs) (i : Nat) (hi : i < n) (x : Int) :
    Kd.R (Kd.int .i64) 3 (W.setCell ⟨g, i, none⟩ (.int .i64 x)) base ok (.slice (some ⟨g, 0, none⟩) n cap) (xs.set i x) ∧ W.cell? ⟨g, i, none⟩ = some (.int .i64 (xs.getD i 0)) ∧ W.frozen? ⟨g, i, none⟩ = false := by
  obtain ⟨ci, hcl3, hM3, hcc3, hfr3⟩ := Kd.R_elem h (0 : Int) (i : Int) (by omega) (by omega)
  obtain rfl : ci = [.int .i64 (xs.getD (i : Int).toNat 0)] := hM3
  have HP3 := Kd.R_seg h (i : Int) (by omega) (by omega) (seg := [.int .i64 x]) (j := 0) hcl3 hcc3 (show 1 ≤ 1 from by decide) (x' := x) (show (Kd.int .i64).M W base (fun k => ok k ∧ k ≠ g) x [.int .i64 x] from rfl) (fun _ hk => hk)
  rw [Int.toNat_natCast] at hcc3 hfr3 HP3
  have y0 := hcc3 0 _ rfl
  have f0 := hfr3 0
  simp only [show (Kd.int .i64).sz = 1 from rfl, Nat.add_zero, Nat.mul_one] at y0 f0 HP3
  exact ⟨HP3.1, y0, f0⟩
theorem okM_def (pa : List Int) (i j : Nat) : okM pa i j = (descB (give pa i j 1) && decide (0 < (give pa i j 1).getD i 0)) := rfl
theorem rowM_pos {pa : List Int} {i j : Nat} (h : okM pa i j = true) : rowM pa i j = [(give pa i j 1).filter nzI] := by unfold rowM; rw [if_pos h]
theorem rowM_neg {pa : List Int} {i j : Nat} (h : okM pa i j = false) : rowM pa i j = [] := by unfold rowM; rw [h]; rfl
theorem give1_def (pa : List Int) (i j : Nat) : give pa i j 1 = (pa.set i (pa.getD i 0 - 1)).set j (pa.getD j 0 + 1) := rfl
set_option maxHeartbeats 8000000 in
set_option maxRecDepth 100000 in
theorem lower_calls (A : Option Addr) (c : Nat) (a : List Int) (w : World) (hl : a.length ≤ 12) (h1 : ∀ x ∈ a, 1 ≤ x ∧ x ≤ 12) (hr : Kd.C (Kd.int .i64) w A a.length a) (hc : a.length ≤ c) :
    Calls Try.prog 76 #[.slice A a.length c] w fun e w' => ∃ v, e = .returned v ∧ Kd.R (Kd.slice 3 (Kd.int .i64)) 22 w' w.heap.size (fun _ => True) v (lowU a) ∧ Below w.heap.size w w' := by
  have hcl := slices_Clone_int_int.calls A c a a w hr hc (by simp [slices_Clone_int_int.f]; omega)
  have HCL := Lib.hid hcl
  have hbd : ∀ q, 0 ≤ (a ++ [0]).getD q 0 ∧ (a ++ [0]).getD q 0 ≤ 12 := by
    intro q
    by_cases hq : q < (a ++ [0]).length
    · rw [List.getD_eq_getElem?_getD, List.getElem?_eq_getElem hq]
      have hm : (a ++ [0])[q] ∈ a ++ [0] := List.getElem_mem hq
      rcases List.mem_append.mp hm with h | h
      · have := h1 _ h; simp only [Option.getD_some]; omega
      · rw [List.mem_singleton] at h; rw [h]; simp
    · rw [List.getD_eq_getElem?_getD, List.getElem?_eq_none (by omega)]; simp
  have hbp : ∀ q, q < a.length → 1 ≤ (a ++ [0]).getD q 0 := by
    intro q hq
    rw [List.getD_eq_getElem?_getD, List.getElem?_append_left hq, List.getElem?_eq_getElem hq]
    exact (h1 _ (List.getElem_mem hq)).1
  have hn : (a ++ [0]).length = a.length + 1 := by simp
  have hlu : lowU a = lowI (a ++ [0]) (a.length + 1) := rfl
  rw [hlu]
  clear hlu hcl h1 hr
  generalize hpa : a ++ [0] = pa at *
  have HPA := Aside0.mk hpa
  have HBD := Aside0.mk hbd
  have HBP := Aside0.mk hbp
  clear hpa hbd hbp
  go_enter Try.func76, Try.ntmps76
  go_wp2_with (first | (go_at_call 42; refine (HCL.out).mono ?_; rintro e w1 ⟨v1, rfl, ho1, hb1⟩; have HO1 := Aside0.mk ho1; have HB1 := Aside0.mk hb1; obtain ⟨A1, c1, rfl⟩ := Kd.R_slice ho1; clear ho1 hb1) | ((with_reducible refine gate_builtin (b := .append) (xs := #[.tmp 8, .tmp 9]) rfl ?_); at_builtin; refine Kd.R_append (Kd.int .i64) (w0 := w) w.heap.size rfl (.tmp 8) (.tmp 9) 22 3 (.int .i64 0) 8 rfl Try.underlying22 info3 rfl (by decide) (by omega) (.slice A1 a.length c1) a (0 : Int) [.int .i64 0] (fun _ => True) (fun _ => False) rfl rfl ?aP (fun _ hk => hk.elim) ?aF ?aO ?aB ?aS ?aL ?_; (case aP => exact rfl); (case aB => exact HB1.out); (case aF => exact (fun _ _ => trivial)); (case aO => exact HO1.out); (case aS => exact (below_size HB1.out)); (case aL => omega); intro v2 w2 ho hb hg hat; rw [HPA.out] at ho; obtain ⟨Aa, ca, e2⟩ := Kd.R_slice ho; rw [hn] at e2; subst e2; have HA2 := Aside0.mk ho; have HB2 := Aside0.mk hb; clear ho hb hg hat))
  clear HB1 HO1
  go_loopw [3, 13] (fun v3 v13 wr => ∃ i : Nat, ∃ A3 c3, v3 = .slice A3 (lowI pa i).length c3 ∧ i ≤ a.length + 1 ∧ v13 = .int .i64 i ∧ Aside0 (Kd.R (Kd.slice 3 (Kd.int .i64)) 22 wr w.heap.size (fun _ => True) v3 (lowI pa i)) ∧ Aside0 (Kd.R (Kd.int .i64) 3 wr w.heap.size (fun _ => True) (.slice Aa (a.length + 1) ca) pa) ∧ Aside0 (Below w.heap.size w wr)) (fun _ v13 _ => a.length + 1 - (intOf v13).toNat)
  case atStart => exact ⟨0, none, 0, rfl, by omega, rfl, ⟨show Kd.R (Kd.slice 3 (Kd.int .i64)) 22 w2 w.heap.size (fun _ => True) (.slice none 0 0) [] from Kd.R_nil _ _ _ _ _⟩, HA2, HB2⟩
  case round =>
    clear HA2 HB2
    obtain ⟨i, A3, c3, rfl, hi, rfl, HO, HA, HB⟩ := hrel
    have hil := Aside0.mk (lowI_len pa i)
    have hsuI := Aside0.mk (lowI_succ pa i)
    by_cases hlt : i < a.length + 1
    · have hid : decide ((i : Int) < ((a.length + 1 : Nat) : Int)) = true := decide_eq_true (by omega)
      have hid2 : decide ((i : Int) < (a.length : Int) + 1) = true := decide_eq_true (by omega)
      go_wp2
      go_loopw [3, 5] (fun v3 v5 wq => ∃ j : Nat, ∃ A3 c3, v3 = .slice A3 (lowI pa i ++ lowJ pa i j).length c3 ∧ i + 1 ≤ j ∧ j ≤ a.length + 1 ∧ v5 = .int .i64 j ∧ Aside0 (Kd.R (Kd.slice 3 (Kd.int .i64)) 22 wq w.heap.size (fun _ => True) v3 (lowI pa i ++ lowJ pa i j)) ∧ Aside0 (Kd.R (Kd.int .i64) 3 wq w.heap.size (fun _ => True) (.slice Aa (a.length + 1) ca) pa) ∧ Aside0 (Below w.heap.size w wq)) (fun _ v5 _ => a.length + 1 - (intOf v5).toNat)
      case atStart => exact ⟨i + 1, A3, c3, by rw [lowJ_start _ _ _ (Nat.le_refl _), List.append_nil], by omega, by omega, by go_num, ⟨by rw [lowJ_start _ _ _ (Nat.le_refl _), List.append_nil]; exact HO.out⟩, HA, HB⟩
      case round =>
        clear HO HA HB
        obtain ⟨j, A4, c4, rfl, hij, hj, rfl, HO, HA, HB⟩ := hrel
        by_cases hjl : j < a.length + 1
        · have hjd : decide ((j : Int) < ((a.length + 1 : Nat) : Int)) = true := decide_eq_true (by omega)
          have hjd2 : decide ((j : Int) < (a.length : Int) + 1) = true := decide_eq_true (by omega)
          have hia : i < a.length := by omega
          have hsuJ := Aside0.mk (lowJ_succ pa i j (by omega))
          have hjlen := Aside0.mk (lowJ_len pa i j)
          have hrd := Kd.R_reads' HA.out
          have hcl := slices_Clone_int_int.calls Aa ca pa pa wr (by rw [hn]; rw [← hrd.1] at hrd; exact hrd.2.2) (by rw [hn]; exact hrd.2.1) (by simp [slices_Clone_int_int.f]; omega)
          rw [hn] at hcl
          have hwi := HBD.out i
          have hwj := HBD.out j
          have hpi := HBP.out i hia
          have hgl : (give pa i j 1).length = a.length + 1 := by rw [give_len, hn]
          have hgv : (pa.set i (pa.getD i 0 - 1)).getD j 0 = pa.getD j 0 := by
            rw [set_getD _ _ _ _ (by rw [hn]; omega), if_neg (by omega)]
          have hgd := give1_def pa i j
          have hgm : ∀ x ∈ give pa i j 1, 0 ≤ x ∧ x ≤ 1000 := by
            intro x hx
            rw [hgd] at hx
            rcases List.mem_or_eq_of_mem_set hx with h | rfl
            · rcases List.mem_or_eq_of_mem_set h with h | rfl
              · obtain ⟨q, hq, rfl⟩ := List.getElem_of_mem h
                have := HBD.out q
                rw [List.getD_eq_getElem?_getD, List.getElem?_eq_getElem hq] at this
                simp only [Option.getD_some] at this
                omega
              · omega
            · omega
          have hsrt := Sorted_f (give pa i j 1) (by omega) (by omega) hgm 100 (by omega)
          rw [dc_desc] at hsrt
          have HSRT := Aside0.mk hsrt
          have hge : (give pa i j 1).getD i 0 = pa.getD i 0 - 1 := by
            rw [hgd, set_getD _ _ _ _ (by rw [List.length_set, hn]; omega), if_neg (by omega), set_getD _ _ _ _ (by rw [hn]; omega), if_pos rfl]
          have HGD := Aside0.mk hgd
          have HGV := Aside0.mk hgv
          have hok := Aside0.mk (okM_def pa i j)
          have HGE := Aside0.mk hge
          have HCJ := Lib.hid hcl
          have HOL := Aside0.mk (Kd.R_lt HO.out)
          clear hrd hcl hgv hgd hgm hsrt hge
          have hex : ∃ xi xj, pa.getD i 0 = xi ∧ pa.getD j 0 = xj := ⟨_, _, rfl, rfl⟩
          obtain ⟨xi, xj, hxi, hxj⟩ := hex
          rw [hxi] at hwi hpi
          rw [hxj] at hwj
          have HXI := Aside0.mk hxi
          have HXJ := Aside0.mk hxj
          have w1i : wrap64 (xi - 1) = xi - 1 := w64 (by omega) (by omega)
          have w1j : wrap64 (xj + 1) = xj + 1 := w64 (by omega) (by omega)
          clear hxi hxj
          have hlen : (lowI pa i ++ lowJ pa i j).length ≤ 1000 := by
            rw [List.length_append]
            have := hil.out
            have := hjlen.out
            have : i * pa.length ≤ 12 * 13 := Nat.mul_le_mul (by omega) (by omega)
            omega
          generalize hout : lowI pa i ++ lowJ pa i j = out at *
          have HOUT := Aside0.mk hout
          clear hout
          by_cases hs : descB (give pa i j 1) = true
          · rw [hs] at HSRT hok
            by_cases hz : 0 < xi - 1
            · have hzd : decide (0 < xi - 1) = true := decide_eq_true hz
              have hrow : Aside0 (rowM pa i j = [(give pa i j 1).filter nzI]) := ⟨rowM_pos (by rw [hok.out, HGE.out, HXI.out, hzd]; rfl)⟩
              rw [hrow.out] at hsuJ
              clear hok hrow
              have HLEN := Aside0.mk hlen
              clear hlen
              go_wp2_with (first | (go_at_call 42; refine (HCJ.out).mono ?_; rintro e w4 ⟨v4, rfl, ho4, hb4⟩; obtain ⟨gb, cb, e4, hg0, hg1, cells, hgt⟩ := Kd.R_form ho4 (by rw [hn]; omega); rw [hn] at e4; subst e4; have HG0 := Aside0.mk hg0; have HB4 := Aside0.mk hb4; have hp4 := put_int ho4 i (by omega) (xi - 1); rw [HXI.out] at hp4; have HP4 := Aside0.mk hp4.1; have y4 := hp4.2.1; have f4 := hp4.2.2; clear ho4 hb4 hg0 hg1 hgt hp4) | ((with_reducible refine gate_store (t := 3) (p := 31) rfl ?_); refine store_event (t := 3) (p := 31) (v := ?vo) (w1 := (w4.setCell ⟨gb, i, none⟩ (.int .i64 (xi - 1)))) ?hg ?ho ?hn ?hr ?_; (case ho => rfl); (case hg => rfl); (case hn => rfl); (case hr => first | (go_simp; done) | (go_simp; rfl)); intro w5 hw; rw [← hw] at HP4; have HB5 := Aside0.mk (show Below wr.heap.size wr w5 from by rw [hw]; exact below_set HB4.out HG0.out); have hp5 := put_int HP4.out j (by omega) (xj + 1); have hgv5 := HGV.out; rw [HXI.out, HXJ.out] at hgv5; rw [hgv5] at hp5; have HP5 := Aside0.mk hp5.1; have y5 := hp5.2.1; have f5 := hp5.2.2; clear hw hp5 hgv5 y4 f4) | ((with_reducible refine gate_store (t := 3) (p := 37) rfl ?_); refine store_event (t := 3) (p := 37) (v := ?vo2) (w1 := (w5.setCell ⟨gb, j, none⟩ (.int .i64 (xj + 1)))) ?hg2 ?ho2 ?hn2 ?hr2 ?_; (case ho2 => rfl); (case hg2 => rfl); (case hn2 => rfl); (case hr2 => first | (go_simp; done) | (go_simp; rfl)); intro w6 hw; rw [← hw] at HP5; have HB6 := Aside0.mk (show Below wr.heap.size wr w6 from by rw [hw]; exact below_set HB5.out HG0.out); have hgd6 := HGD.out; rw [HXI.out, HXJ.out] at hgd6; rw [← hgd6] at HP5; have hrr := Kd.R_reads' HP5.out; have hs6 := slices_IsSortedFunc_int_int_with72.calls 100 (some ⟨gb, 0, none⟩) cb (give pa i j 1) _ w6 hrr.2.2 (by have := hrr.2.1; omega) HSRT.out; rw [hgl] at hs6; have HS6 := Lib.hid hs6; clear hrr hs6 hw hgd6 y5 f5) | ((go_at_call 71; refine (HS6.out).mono ?_; rintro e w7 ⟨rfl, ⟨nd, rfl⟩⟩; have HR7 := Aside0.mk (Kd.R_drewN HP5.out nd); have HB7 := Aside0.mk (pw_below_drewN HB6.out nd); generalize w6.drewN nd = w7 at *; have y7 := (put_int HR7.out i (by omega) 0).2.1; rw [HGE.out, HXI.out] at y7); have HLT := Aside0.mk (by have h9 := Kd.R_lt HR7.out; exact h9 gb (by simp [Value.ownBlock])); obtain ⟨row, hrow⟩ : ∃ r, r = (give pa i j 1).filter nzI := ⟨_, rfl⟩; have HROW := Aside0.mk hrow; clear hrow) | ((go_at_call 101; have hdd := del_calls wr _ gb cb (give pa i j 1) (fun _ => True) (by omega) HB7.out (by rw [hgl]; exact HR7.out) HG0.out HLT.out; rw [hgl] at hdd; refine hdd.mono ?_; clear hdd; rintro e w8 ⟨rfl, ho8, hb8, hg8⟩; have HR8 := Aside0.mk ho8; have HB8 := Aside0.mk hb8; have HO8 := Aside0.mk (Kd.R_below HO.out hb8); have HA8 := Aside0.mk (Kd.R_below HA.out hb8); have HW8 := Aside0.mk (below_step HB.out hb8); clear ho8 hb8 hg8); rw [← HROW.out] at HR8; rw [← HROW.out]) | ((with_reducible refine gate_builtin (b := .append) (xs := #[.tmp 47, .tmp 50]) rfl ?_); at_builtin; refine Kd.R_append (Kd.slice 3 (Kd.int .i64)) (w0 := w) w.heap.size rfl (.tmp 47) (.tmp 50) 48 22 (.slice none 0 0) 24 rfl Try.underlying48 info22 rfl (by decide) (by omega) (.slice A4 out.length c4) out row [.slice (some ⟨gb, 0, none⟩) row.length cb] (fun _ => True) (fun k => wr.heap.size ≤ k) rfl rfl ?aP ?aK ?aF ?aO ?aB ?aS ?aL ?_; (case aP => exact ⟨_, rfl, Kd.R_lower (Kd.R_mono (Kd.R_bound HR8.out) (fun k hk => hk.2.1)) (below_size HB.out)⟩); (case aK => exact fun k hk => ⟨trivial, fun e => by have := HOL.out k e.symm; omega⟩); (case aB => exact HW8.out); (case aF => exact (fun _ _ => trivial)); (case aO => exact HO8.out); (case aS => exact (below_size HW8.out)); (case aL => have := HLEN.out; omega); intro v9 w9 ho hb hg hat; obtain ⟨A9, c9, rfl⟩ := Kd.R_slice ho; have HO9 := Aside0.mk ho; have HA9 := Aside0.mk (Kd.R_over HA8.out HO8.out (by decide) hg); have HB9 := Aside0.mk hb; clear ho hb hg hat))
              go_roundw
              case rel => exact ⟨j + 1, A9, c9, by rw [hsuJ.out, ← List.append_assoc, HOUT.out, ← HROW.out, List.length_append]; rfl, by omega, by omega, by go_num, ⟨by rw [hsuJ.out, ← List.append_assoc, HOUT.out, ← HROW.out]; have h9 := HO9.out; rw [List.length_append] at h9; exact h9⟩, HA9, HB9⟩
              case measure => simp [intOf]; omega
            · have hzd : decide (0 < xi - 1) = false := decide_eq_false hz
              have hrow : Aside0 (rowM pa i j = []) := ⟨rowM_neg (by rw [hok.out, HGE.out, HXI.out, hzd]; rfl)⟩
              rw [hrow.out, List.append_nil] at hsuJ
              clear hok hrow
              go_wp2_with (first | (go_at_call 42; refine (HCJ.out).mono ?_; rintro e w4 ⟨v4, rfl, ho4, hb4⟩; obtain ⟨gb, cb, e4, hg0, hg1, cells, hgt⟩ := Kd.R_form ho4 (by rw [hn]; omega); rw [hn] at e4; subst e4; have HG0 := Aside0.mk hg0; have HB4 := Aside0.mk hb4; have hp4 := put_int ho4 i (by omega) (xi - 1); rw [HXI.out] at hp4; have HP4 := Aside0.mk hp4.1; have y4 := hp4.2.1; have f4 := hp4.2.2; clear ho4 hb4 hg0 hg1 hgt hp4) | ((with_reducible refine gate_store (t := 3) (p := 31) rfl ?_); refine store_event (t := 3) (p := 31) (v := ?vo) (w1 := (w4.setCell ⟨gb, i, none⟩ (.int .i64 (xi - 1)))) ?hg ?ho ?hn ?hr ?_; (case ho => rfl); (case hg => rfl); (case hn => rfl); (case hr => first | (go_simp; done) | (go_simp; rfl)); intro w5 hw; rw [← hw] at HP4; have HB5 := Aside0.mk (show Below wr.heap.size wr w5 from by rw [hw]; exact below_set HB4.out HG0.out); have hp5 := put_int HP4.out j (by omega) (xj + 1); have hgv5 := HGV.out; rw [HXI.out, HXJ.out] at hgv5; rw [hgv5] at hp5; have HP5 := Aside0.mk hp5.1; have y5 := hp5.2.1; have f5 := hp5.2.2; clear hw hp5 hgv5 y4 f4) | ((with_reducible refine gate_store (t := 3) (p := 37) rfl ?_); refine store_event (t := 3) (p := 37) (v := ?vo2) (w1 := (w5.setCell ⟨gb, j, none⟩ (.int .i64 (xj + 1)))) ?hg2 ?ho2 ?hn2 ?hr2 ?_; (case ho2 => rfl); (case hg2 => rfl); (case hn2 => rfl); (case hr2 => first | (go_simp; done) | (go_simp; rfl)); intro w6 hw; rw [← hw] at HP5; have HB6 := Aside0.mk (show Below wr.heap.size wr w6 from by rw [hw]; exact below_set HB5.out HG0.out); have hgd6 := HGD.out; rw [HXI.out, HXJ.out] at hgd6; rw [← hgd6] at HP5; have hrr := Kd.R_reads' HP5.out; have hs6 := slices_IsSortedFunc_int_int_with72.calls 100 (some ⟨gb, 0, none⟩) cb (give pa i j 1) _ w6 hrr.2.2 (by have := hrr.2.1; omega) HSRT.out; rw [hgl] at hs6; have HS6 := Lib.hid hs6; clear hrr hs6 hw hgd6 y5 f5) | (go_at_call 71; refine (HS6.out).mono ?_; rintro e w7 ⟨rfl, ⟨nd, rfl⟩⟩; have HR7 := Aside0.mk (Kd.R_drewN HP5.out nd); have HB7 := Aside0.mk (pw_below_drewN HB6.out nd); generalize w6.drewN nd = w7 at *; have y7 := (put_int HR7.out i (by omega) 0).2.1; rw [HGE.out, HXI.out] at y7))
              go_roundw
              case rel => exact ⟨j + 1, A4, c4, by rw [hsuJ.out, HOUT.out], by omega, by omega, by go_num, ⟨by rw [hsuJ.out, HOUT.out]; exact Kd.R_below HO.out HB7.out⟩, ⟨Kd.R_below HA.out HB7.out⟩, ⟨below_step HB.out HB7.out⟩⟩
              case measure => simp [intOf]; omega
          · have hs2 := Bool.eq_false_iff.mpr hs
            rw [hs2] at HSRT hok
            have hrow : Aside0 (rowM pa i j = []) := ⟨rowM_neg (by rw [hok.out]; rfl)⟩
            rw [hrow.out, List.append_nil] at hsuJ
            clear hok hrow
            go_wp2_with (first | (go_at_call 42; refine (HCJ.out).mono ?_; rintro e w4 ⟨v4, rfl, ho4, hb4⟩; obtain ⟨gb, cb, e4, hg0, hg1, cells, hgt⟩ := Kd.R_form ho4 (by rw [hn]; omega); rw [hn] at e4; subst e4; have HG0 := Aside0.mk hg0; have HB4 := Aside0.mk hb4; have hp4 := put_int ho4 i (by omega) (xi - 1); rw [HXI.out] at hp4; have HP4 := Aside0.mk hp4.1; have y4 := hp4.2.1; have f4 := hp4.2.2; clear ho4 hb4 hg0 hg1 hgt hp4) | ((with_reducible refine gate_store (t := 3) (p := 31) rfl ?_); refine store_event (t := 3) (p := 31) (v := ?vo) (w1 := (w4.setCell ⟨gb, i, none⟩ (.int .i64 (xi - 1)))) ?hg ?ho ?hn ?hr ?_; (case ho => rfl); (case hg => rfl); (case hn => rfl); (case hr => first | (go_simp; done) | (go_simp; rfl)); intro w5 hw; rw [← hw] at HP4; have HB5 := Aside0.mk (show Below wr.heap.size wr w5 from by rw [hw]; exact below_set HB4.out HG0.out); have hp5 := put_int HP4.out j (by omega) (xj + 1); have hgv5 := HGV.out; rw [HXI.out, HXJ.out] at hgv5; rw [hgv5] at hp5; have HP5 := Aside0.mk hp5.1; have y5 := hp5.2.1; have f5 := hp5.2.2; clear hw hp5 hgv5 y4 f4) | ((with_reducible refine gate_store (t := 3) (p := 37) rfl ?_); refine store_event (t := 3) (p := 37) (v := ?vo2) (w1 := (w5.setCell ⟨gb, j, none⟩ (.int .i64 (xj + 1)))) ?hg2 ?ho2 ?hn2 ?hr2 ?_; (case ho2 => rfl); (case hg2 => rfl); (case hn2 => rfl); (case hr2 => first | (go_simp; done) | (go_simp; rfl)); intro w6 hw; rw [← hw] at HP5; have HB6 := Aside0.mk (show Below wr.heap.size wr w6 from by rw [hw]; exact below_set HB5.out HG0.out); have hgd6 := HGD.out; rw [HXI.out, HXJ.out] at hgd6; rw [← hgd6] at HP5; have hrr := Kd.R_reads' HP5.out; have hs6 := slices_IsSortedFunc_int_int_with72.calls 100 (some ⟨gb, 0, none⟩) cb (give pa i j 1) _ w6 hrr.2.2 (by have := hrr.2.1; omega) HSRT.out; rw [hgl] at hs6; have HS6 := Lib.hid hs6; clear hrr hs6 hw hgd6 y5 f5) | (go_at_call 71; refine (HS6.out).mono ?_; rintro e w7 ⟨rfl, ⟨nd, rfl⟩⟩; have HR7 := Aside0.mk (Kd.R_drewN HP5.out nd); have HB7 := Aside0.mk (pw_below_drewN HB6.out nd); generalize w6.drewN nd = w7 at *; have y7 := (put_int HR7.out i (by omega) 0).2.1; rw [HGE.out, HXI.out] at y7))
            go_roundw
            case rel => exact ⟨j + 1, A4, c4, by rw [hsuJ.out, HOUT.out], by omega, by omega, by go_num, ⟨by rw [hsuJ.out, HOUT.out]; exact Kd.R_below HO.out HB7.out⟩, ⟨Kd.R_below HA.out HB7.out⟩, ⟨below_step HB.out HB7.out⟩⟩
            case measure => simp [intOf]; omega
        · have hjd : decide ((j : Int) < ((a.length + 1 : Nat) : Int)) = false := decide_eq_false (by omega)
          have hjd2 : decide ((j : Int) < (a.length : Int) + 1) = false := decide_eq_false (by omega)
          obtain rfl : j = a.length + 1 := by omega
          go_wp2
          go_roundw
          case rel => exact ⟨i + 1, A4, c4, by rw [hsuI.out, hn], by omega, by go_num, ⟨by rw [hsuI.out, hn]; exact HO.out⟩, HA, HB⟩
          case measure => simp [intOf]; omega
    · have hid : decide ((i : Int) < ((a.length + 1 : Nat) : Int)) = false := decide_eq_false (by omega)
      have hid2 : decide ((i : Int) < (a.length : Int) + 1) = false := decide_eq_false (by omega)
      obtain rfl : i = a.length + 1 := by omega
      go_wp2
      go_ret
      exact ⟨_, rfl, HO.out, HB.out⟩
end Go.Proofs.Ytefmafbbnkkpjaa.X
