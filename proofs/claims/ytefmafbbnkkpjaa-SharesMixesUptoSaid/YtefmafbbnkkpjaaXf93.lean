-- Written by a program of this work (wip/xprint.py, over the kit's printer) out of the translation.
import Derived.Test.YtefmafbbnkkpjaaX0
import Derived.Test.YtefmafbbnkkpjaaXG1a
import Derived.Test.YtefmafbbnkkpjaaE113
namespace Go.Proofs.Ytefmafbbnkkpjaa.X
open Go.RowKit Go.Proofs.YtefmafbbnkkpjaaW.PrintWords Go.Proofs.YtefmafbbnkkpjaaW.PrintLast Go.Proofs.YtefmafbbnkkpjaaW.PrintMore
attribute [local go_sem] max2_int min2_int max_two min_two max_three min_three max_four min_four   -- for this text's walks alone
set_option linter.unusedVariables false
set_option linter.unusedSimpArgs false

/-! ### shares_empty: function 93 -/
def shares_empty.l0 : Nat → Int → List (List (S62)) → Int → Int → Option ((List (List (S62))))
 | 0, _, _, _, _ => none
 | k + 1, x0, x3, x8, x9 => if x9 < x8 then ((shares_whole.f 0).bind fun bt1021 => ((xRepeat.f (([(⟨bt1021.1, bt1021.2⟩ : S62)] : List (S62))) x0).bind fun t1026 => (if 0 ≤ x9 then (if x9 < (x3.length : Int) then (shares_empty.l0 k x0 (x3.set (x9 : Int).toNat t1026) x8 (wrap64 (x9 + 1))) else (none)) else (none)))) else (some x3)
def shares_empty.f (k : Nat) (a0 : Int) : Option ((List (List (S62)))) := if 0 ≤ a0 then (if (a0 : Int).toNat ≤ 11728124029610 then ((some (List.replicate (a0 : Int).toNat [] : List (List (S62)))).bind fun y1018 => (shares_empty.l0 k a0 y1018 (y1018.length : Int) 0)) else (none)) else (none)
theorem shares_empty.mono_l : ∀ k, (∀ y0 y1 y2 y3, LeO (shares_empty.l0 k y0 y1 y2 y3) (shares_empty.l0 (k + 1) y0 y1 y2 y3))
 | 0 => fun _ _ _ _ r h => by simp [shares_empty.l0] at h
 | k + 1 => by
  have ih0 := shares_empty.mono_l k
  ·intro y0 y1 y2 y3
   unfold shares_empty.l0
   repeat' first
   | (with_reducible exact ih0 _ _ _ _)
   | (with_reducible exact LeO.refl _)
   | (with_reducible exact LeO.none _)
   | (with_reducible refine LeO.ite ?_ ?_)
   | (with_reducible refine LeO.bind ?_ (fun _ => ?_))
   | exact ih0 _ _ _ _
   | exact LeO.none _
   | refine LeO.ite ?_ ?_
   | refine LeO.bind ?_ (fun _ => ?_)
theorem shares_empty.mono : ∀ a0 k, LeO (shares_empty.f k a0) (shares_empty.f (k + 1) a0) := by
 intro a0 k
 have ih0 := shares_empty.mono_l k
 unfold shares_empty.f
 repeat' first
   | (with_reducible exact ih0 _ _ _ _)
   | (with_reducible exact LeO.refl _)
   | (with_reducible exact LeO.none _)
   | (with_reducible refine LeO.ite ?_ ?_)
   | (with_reducible refine LeO.bind ?_ (fun _ => ?_))
   | exact ih0 _ _ _ _
   | exact LeO.none _
   | refine LeO.ite ?_ ?_
   | refine LeO.bind ?_ (fun _ => ?_)
set_option maxHeartbeats 8000000 in
set_option maxRecDepth 100000 in
theorem shares_empty.calls (k : Nat) (a0 : Int) (r : List (List (S62))) (w : World) (h : shares_empty.f k a0 = some r) :
  Calls Try.prog 93 #[.int .i64 a0] w fun e w' => ∃ v0_ : Value, e = .returned (v0_) ∧ Kd.S (Kd.slice 62 k62) 52 w' w.heap.size (fun _ => True) v0_ r ∧ Below w.heap.size w w' := by
 have HB := ak (Below.refl w.heap.size w)
 have H : (if 0 ≤ a0 then (if (a0 : Int).toNat ≤ 11728124029610 then ((some (List.replicate (a0 : Int).toNat [] : List (List (S62)))).bind fun y1018 => (shares_empty.l0 k a0 y1018 (y1018.length : Int) 0)) else (none)) else (none)) = some r := h
 clear h
 by_cases c2 : 0 ≤ a0
 rotate_left
 ·rw [if_neg c2] at H
  exact absurd H (by simp)
 rw [if_pos c2] at H
 have c2b0 := eq_true c2
 have c2b1 : decide (0 ≤ a0) = true := decide_eq_true c2
 clear c2
 by_cases c3 : (a0 : Int).toNat ≤ 11728124029610
 rotate_left
 ·rw [if_neg c3] at H
  exact absurd H (by simp)
 rw [if_pos c3] at H
 have c3b0 := eq_true c3
 have c3b1 : decide ((a0 : Int).toNat ≤ 11728124029610) = true := decide_eq_true c3
 clear c3
 obtain ⟨y1018, hy1018⟩ : ∃ y_ : List (List (S62)), y_ = (List.replicate (a0 : Int).toNat []) := ⟨_, rfl⟩
 replace H : (shares_empty.l0 k a0 y1018 (y1018.length : Int) 0) = some r := by first | (rw [hy1018]; with_reducible exact H) | (have H2_ := (Option.bind_some _ _).symm.trans H; rw [hy1018]; with_reducible exact H2_) | (have H2_ := (Option.bind_some _ _).symm.trans H; with_reducible exact H2_) | with_reducible exact H | (rw [hy1018]; exact H) | exact H
 have Ny1018 := Aside0.mk hy1018
 clear hy1018
 have H' := Aside0.mk H
 clear H
 go_enter Try.func93, Try.ntmps93
 go_wp2_with (first | ((with_reducible refine gate_dst (N := 6) rfl ?_); refine Kd.S_make (Kd.slice 62 k62) _ 52 rfl (N := 6) rfl 88 _ _ rfl a0 rfl rfl Try.underlying88 (.slice none 0 0) 24 info52 rfl (by decide) (by omega) [] (ok := fun _ => True) (okp := fun _ => True) ⟨_, rfl, Kd.R_nil _ _ _ _ _⟩ (fun _ hk => hk) trivial (dA) (Nat.le_trans (Nat.mul_le_mul_right _ (dA : a0.toNat ≤ 11728124029610)) (by omega)) (Below.refl _ _) (Nat.le_refl _) ?_; intro v1019 w4 ho5 hb hg_ hnew_; clear hg_ hnew_; (first | rw [← Ny1018.out] at ho5 | (simp only [Int.reduceToNat] at ho5; rw [← Ny1018.out] at ho5)); have HO1020 := ak (Kd.S_lower ho5 (below_size (hbC _))); replace HB := kH _ hb; clear hb ho5; obtain ⟨Ao6, co6, eo6⟩ := Kd.S_slice HO1020.out; subst eo6))
 go_loopg [9] k (fun kq v9 w' => ∃ (x3_1 : List (List (S62))) (x9_1 : Int), v9 = .int .i64 x9_1 ∧ Aside0 (shares_empty.l0 kq a0 x3_1 (y1018.length : Int) x9_1 = some r) ∧ Aside0 (kq ≤ k) ∧ Aside0 (Kd.S (Kd.slice 62 k62) 52 w' w.heap.size (fun _ => True) (.slice Ao6 y1018.length co6) x3_1) ∧ Aside0 (Below w.heap.size w w'))
 case atStart => exact ⟨(y1018), (0), (by first | rfl | (simp; done) | (simp [*]; done)), H', ⟨Nat.le_refl _⟩, ⟨by (with_reducible repeat (first | apply Kd.S_alloc | apply Kd.S_drewN | apply Kd.S_drew)); exact HO1020.out⟩, ⟨hbC _⟩⟩
 case round =>
  clear H'
  try clear c2
  try clear c2b0
  try clear c2b1
  try clear p2
  try clear c3
  try clear c3b0
  try clear c3b1
  obtain ⟨x3_1, x9_1, rfl, HA, HK1, HO_3, HB⟩ := hrel
  have hl3_1 := (Kd.S_reads' HO_3.out).1
  rw [hl3_1] at HO_3
  (try simp only [hl3_1])
  cases gk with
  | zero => exact absurd HA.out (by simp [shares_empty.l0])
  | succ k1 =>
   have H := HA.out
   clear HA
   simp only [shares_empty.l0] at H
   by_cases c7 : x9_1 < (y1018.length : Int)
   rotate_left
   ·rw [if_neg c7] at H
    have c7b0 : decide (x9_1 < (y1018.length : Int)) = false := decide_eq_false c7
    have c7b1 : decide (x9_1 < (x3_1.length : Int)) = false := by rw [← hl3_1]; exact c7b0
    clear c7
    obtain rfl := Option.some.inj H
    go_wp2
    go_ret
    exact ⟨_, by first | rfl | (simp [errW_none, errW_some] <;> rfl) | (simp [*, errW_none, errW_some] <;> rfl), by (with_reducible repeat (first | apply Kd.S_alloc | apply Kd.S_drewN | apply Kd.S_drew)); exact HO_3.out, hbC _⟩
   rw [if_pos c7] at H
   have c7b0 : decide (x9_1 < (y1018.length : Int)) = true := decide_eq_true c7
   have c7b1 : decide (x9_1 < (x3_1.length : Int)) = true := by rw [← hl3_1]; exact c7b0
   clear c7
   replace H := Option.bind_eq_some_iff.mp H
   obtain ⟨⟨t1021, t1022⟩, A80, H⟩ := H
   replace H : ((xRepeat.f (([(⟨t1021, t1022⟩ : S62)] : List (S62))) a0).bind fun t1026 => (if 0 ≤ x9_1 then (if x9_1 < (x3_1.length : Int) then (shares_empty.l0 k1 a0 (x3_1.set (x9_1 : Int).toNat t1026) (y1018.length : Int) (wrap64 (x9_1 + 1))) else (none)) else (none))) = some r := H
   have A8 := Aside0.mk A80
   clear A80
   obtain ⟨y1023, hy1023⟩ : ∃ y_ : List (S62), y_ = (([(⟨t1021, t1022⟩ : S62)] : List (S62))) := ⟨_, rfl⟩
   replace H : ((xRepeat.f y1023 a0).bind fun t1026 => (if 0 ≤ x9_1 then (if x9_1 < (x3_1.length : Int) then (shares_empty.l0 k1 a0 (x3_1.set (x9_1 : Int).toNat t1026) (y1018.length : Int) (wrap64 (x9_1 + 1))) else (none)) else (none))) = some r := by first | (rw [hy1023]; with_reducible exact H) | (have H2_ := (Option.bind_some _ _).symm.trans H; rw [hy1023]; with_reducible exact H2_) | (have H2_ := (Option.bind_some _ _).symm.trans H; with_reducible exact H2_) | with_reducible exact H | (rw [hy1023]; exact H) | exact H
   have Ny1023 := Aside0.mk hy1023
   clear hy1023
   replace H := Option.bind_eq_some_iff.mp H
   obtain ⟨t1026, A90, H⟩ := H
   replace H : (if 0 ≤ x9_1 then (if x9_1 < (x3_1.length : Int) then (shares_empty.l0 k1 a0 (x3_1.set (x9_1 : Int).toNat t1026) (y1018.length : Int) (wrap64 (x9_1 + 1))) else (none)) else (none)) = some r := H
   have A9 := Aside0.mk A90
   clear A90
   by_cases c10 : 0 ≤ x9_1
   rotate_left
   ·rw [if_neg c10] at H
    exact absurd H (by simp)
   rw [if_pos c10] at H
   have c10b0 : decide (0 ≤ x9_1) = true := decide_eq_true c10
   clear c10
   by_cases c11 : x9_1 < (x3_1.length : Int)
   rotate_left
   ·rw [if_neg c11] at H
    exact absurd H (by simp)
   rw [if_pos c11] at H
   have c11b0 : decide (x9_1 < (x3_1.length : Int)) = true := decide_eq_true c11
   clear c11
   obtain ⟨y1029, hy1029⟩ : ∃ y_ : List (List (S62)), y_ = (x3_1.set (x9_1 : Int).toNat t1026) := ⟨_, rfl⟩
   replace H : (shares_empty.l0 k1 a0 y1029 (y1018.length : Int) (wrap64 (x9_1 + 1))) = some r := by first | (rw [hy1029]; with_reducible exact H) | (have H2_ := (Option.bind_some _ _).symm.trans H; rw [hy1029]; with_reducible exact H2_) | (have H2_ := (Option.bind_some _ _).symm.trans H; with_reducible exact H2_) | with_reducible exact H | (rw [hy1029]; exact H) | exact H
   have Ny1029 := Aside0.mk hy1029
   clear hy1029
   have H' := Aside0.mk H
   clear H
   go_wp2_with (first | ((with_reducible refine gate_callee (f := 94) rfl ?_); refine gL 14 Try.func94 #[.int .i64 0] ?_; (with_reducible refine (shares_whole.calls 0 t1021 t1022 _ A8.out).mono ?_); rintro e w13 ⟨rfl, hb⟩; refine ⟨_, rfl, ?_⟩; replace HO_3 := ak (Kd.S_below (by (with_reducible repeat (first | apply Kd.S_alloc | apply Kd.S_drewN | apply Kd.S_drew)); exact HO_3.out) hb); replace HB := kH _ hb; (try clear hb); (try clear hb2); (try clear hk); (try clear hi)) | ((with_reducible refine gate_dst (N := 15) rfl ?_); refine Kd.R_lit k62 _ 62 ?hg (N := 15) ?hd (xs := ([(⟨t1021, t1022⟩ : S62)] : List (S62))) (inner := [.int .i64 t1021, .int .i64 t1022]) (ok := fun _ => True) (okp := fun _ => True) ?hr ?hp (fun _ hk => hk) trivial (Below.refl _ _) (Nat.le_refl _) (by simp) ?_; (case hd => rfl); (case hg => rfl); (case hr => first | (go_simp; done) | (go_simp; rfl)); (case hp => exact (Reps.c2 (show Kd.M k62 _ _ _ (⟨t1021, t1022⟩ : S62) [.int .i64 t1021, .int .i64 t1022] from (k62_mkM _ _ _ (⟨t1021, t1022⟩ : S62) )) (Reps.none _ _))); intro v1024 w14 ho15 hb hg_ hnew_; clear hg_ hnew_; (first | rw [← Ny1023.out] at ho15 | (simp only [Int.reduceToNat] at ho15; rw [← Ny1023.out] at ho15)); replace HO_3 := ak (Kd.S_elder' (by (with_reducible repeat (first | apply Kd.S_alloc | apply Kd.S_drewN | apply Kd.S_drew)); exact HO_3.out) (Kd.R_base ho15) hb); have HO1025 := ak (Kd.R_lower ho15 (below_size (hbC _))); replace HB := kH _ hb; clear hb ho15; obtain ⟨Ao16, co16, eo16⟩ := Kd.R_slice HO1025.out; subst eo16) | ((with_reducible refine gate_callee (f := 113) rfl ?_); refine gL 17 Try.func113 #[.slice Ao16 y1023.length co16, .int .i64 a0] ?_; (with_reducible refine (xRepeat.calls _ _ y1023 a0 t1026 _ ?side1 ?side2 A9.out).mono ?_); (case side1 => exact kD (Kd.R_reads' HO1025.out).2.2); (case side2 => exact (Kd.R_reads' HO1025.out).2.1); rintro e w17 ⟨v1027, rfl, ho0, hb⟩; refine ⟨_, rfl, ?_⟩; replace HO_3 := ak (Kd.S_elder' (by (with_reducible repeat (first | apply Kd.S_alloc | apply Kd.S_drewN | apply Kd.S_drew)); exact HO_3.out) (Kd.R_base ho0) hb); have HO1028 := ak (Kd.R_lower (Kd.R_new' ho0 (Kd.R_lt (rC HO1025))) (below_size (hbC _))); replace HO1025 := ak (Kd.R_elder' (rC HO1025) (Kd.R_base ho0) hb); replace HB := kH _ hb; (try clear hb); (try clear hb2); (try clear hk); (try clear hi); (try clear ho0); obtain ⟨Av27, cv27, ev27⟩ := Kd.R_slice HO1028.out; subst ev27; have p12 : 0 ≤ (x9_1 : Int) := dA; have q12 : (x9_1 : Int) < ((x3_1.length : Int) : Int) := dA; obtain ⟨go12, co12, eo12, gb12, gl12, cl12, HG12⟩ := Kd.S_form HO_3.out (by omega); (first | cases eo12 | (injection eo12 with ea_ en_ ec_; (first | subst ea_ | (injection ea_ with ea_; subst ea_)); subst ec_; clear en_)); have GB12 := Aside0.mk gb12; have GG12 := Aside0.mk HG12; clear gb12 gl12 HG12; obtain ⟨_, ce12, hcl12, hM12, hcc12, hfr12, _, _⟩ := Kd.S_elem HO_3.out [] (x9_1 : Int) p12 q12; obtain ⟨ve12_0, rfl, ge12_0⟩ := hM12; have hx12_0 := hcc12 0 _ rfl; have hf12_0 := hfr12 0; (try simp only [show ((Kd.slice 62 k62)).sz = 1 from rfl, Nat.mul_one, Nat.add_zero] at hx12_0); (try simp only [show ((Kd.slice 62 k62)).sz = 1 from rfl, Nat.mul_one, Nat.add_zero] at hf12_0); (try clear hcl12); (try clear hcc12); (try clear hfr12); (try clear hM12); replace p12 := eq_true p12; replace q12 := eq_true q12; have n_ := ak (Kd.S_mono (ok' := (fun k_ => nb k_ (.slice Ao16 y1023.length co16) ∧ some k_ ≠ (Value.slice Av27 t1026.length cv27).ownBlock)) HO_3.out (fun k_ hk => ⟨hk.1.2, hk.2⟩)); clear HO_3; have HO_3 := n_; clear n_; have HX18 := ak (show Kd.S (Kd.slice 62 k62) 52 w17 w.heap.size (fun k_ => ((fun k_ => nb k_ (.slice Ao16 y1023.length co16))) k_ ∧ ¬ ((fun k_ => some k_ = (Value.slice Av27 t1026.length cv27).ownBlock)) k_) (.slice (some ⟨go12, 0, none⟩) x3_1.length co6) x3_1 from (by (with_reducible repeat (first | apply Kd.S_alloc | apply Kd.S_drewN | apply Kd.S_drew)); exact Kd.S_mono HO_3.out (fun k_ hk => ⟨hk.1, fun e_ => hk.2 e_⟩))); obtain ⟨oki18, ce18, hcl18, hM18, hcc18, hfr18, hoki18, hH18⟩ := Kd.S_elem HX18.out [] (x9_1 : Int) (dA) (by have h_ : (x9_1 : Int) < ((x3_1.length : Int) : Int) := dA; first | exact h_ | (have e_ := (Kd.S_reads' HO_3.out).1; omega) | simpa using h_); obtain ⟨ve18_0, rfl, ge18_0⟩ := hM18; have HP18 := Kd.S_seg hH18 (dA) (by have h_ : (x9_1 : Int) < ((x3_1.length : Int) : Int) := dA; first | exact h_ | (have e_ := (Kd.S_reads' HO_3.out).1; omega) | simpa using h_) (seg := [(Value.slice Av27 t1026.length cv27)]) (j := 0) (show 1 ≤ 1 from by decide) (x' := t1026) (Kd.M_row (Kd.R_mono (Kd.R_tight rfl (Kd.R_mono (ok' := fun k_ => ((fun k_ => nb k_ (.slice Ao16 y1023.length co16))) k_ ∧ k_ ≠ go12) (Kd.R_apart' (HO1028.out) (Kd.S_typed HO_3.out) (by decide)) (fun k_ hk => ⟨hk.1.2, fun e_ => (hk.2) (by rw [e_]; rfl)⟩))) (fun _ h_ => Or.inr (h_)))) (fun _ hk => hk) (fun k_ hk_ => ((Kd.R_mono (ok' := fun k_ => ((fun k_ => nb k_ (.slice Ao16 y1023.length co16))) k_ ∧ k_ ≠ go12) (Kd.R_apart' (HO1028.out) (Kd.S_typed HO_3.out) (by decide)) (fun k_ hk => ⟨hk.1.2, fun e_ => (hk.2) (by rw [e_]; rfl)⟩))).1 k_ hk_.symm); have hx18_0 := hcc18 0 _ rfl; (try simp only [show ((Kd.slice 62 k62)).sz = 1 from rfl, Nat.mul_one, Nat.add_zero] at hx18_0); have hf18_0 := hfr18 0; (try simp only [show ((Kd.slice 62 k62)).sz = 1 from rfl, Nat.mul_one, Nat.add_zero] at hf18_0); (try clear hcl18); (try clear hcc18); (try clear hfr18); (try clear hM18); (try clear hoki18); (try clear hH18); (try simp only [show ((Kd.slice 62 k62)).sz = 1 from rfl, Nat.mul_one, Nat.add_zero] at HP18)) | ((with_reducible refine gate_store (t := 52) (p := 18) rfl ?_); refine store_event (t := 52) (p := 18) (v := ?vo_w19) (w1 := (w17.setCell ⟨go12, (x9_1 : Int).toNat, none⟩ ((Value.slice Av27 t1026.length cv27)))) ?hg ?ho ?hn ?hr ?_; (case ho => rfl); (case hg => rfl); (case hn => rfl); (case hr => first | (go_simp; done) | (go_simp; rfl)); intro w19 hw; have hg : w17.grownBy w19 (some go12) := (by rw [hw]; exact HP18.2); have hp_ : Kd.S (Kd.slice 62 k62) 52 w19 w.heap.size (fun k_ => nb k_ (.slice Ao16 y1023.length co16)) (.slice (some ⟨go12, 0, none⟩) x3_1.length co6) y1029 := (by rw [hw, Ny1029.out]; exact HP18.1); clear HP18; have n0_ := ak (hp_); have n1_ := ak (Kd.R_over' (v := (.slice (some ⟨go12, 0, none⟩) x3_1.length co6)) (rC HO1025) (Kd.S_typed HO_3.out) (by decide) hg); have n2_ := ak ((by rw [hw]; exact below_set (HB.out) GB12.out : Below w.heap.size w w19)); clear HO_3; clear HO1025; clear HB; clear HO1028; have HO_3 := n0_; have HO1025 := n1_; have HB := n2_; clear n0_ n1_ n2_; clear hg hw hp_))
   (try simp only [← hl3_1])
   go_roundg k1
   case measure => have := HK1.out; omega
   case rel => exact ⟨(y1029), (wrap64 (x9_1 + 1)), (by first | rfl | (simp; done) | (simp [*]; done)), H', ⟨by have := HK1.out; omega⟩, ⟨by (try simp only [hl3_1]); (with_reducible repeat (first | apply Kd.S_alloc | apply Kd.S_drewN | apply Kd.S_drew)); exact Kd.S_mono HO_3.out (fun _ hk => trivial)⟩, ⟨hbC _⟩⟩

end Go.Proofs.Ytefmafbbnkkpjaa.X
