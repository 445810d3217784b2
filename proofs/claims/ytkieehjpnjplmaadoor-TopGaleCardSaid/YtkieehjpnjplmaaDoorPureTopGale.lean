/- TopGale: whatever the picture, the law's plain function answers true (Gale and Ryser). -/
import Derived.Test.YtkieehjpnjplmaaDoorSG
import Derived.Test.YtkieehjpnjplmaaDoorXf3
namespace Go.Proofs.YtkieehjpnjplmaaDoor.Pure
open Go.RowKit Go.Proofs.YtkieehjpnjplmaaDoor.X Go.Proofs.YtkieehjpnjplmaaDoorW.PrintWords Go.Proofs.YtkieehjpnjplmaaDoorW.PrintLast
set_option linter.unusedVariables false
set_option linter.unusedSimpArgs false

/-- the table of a picture's squares -/
def bt (p : List Int) (i j : Nat) : Int := bit (rw_ p i) j
theorem bit_01 (x j : Nat) : 0 ≤ bit x j ∧ bit x j ≤ 1 := by unfold bit; omega
theorem pc_bits : ∀ w : Nat, w < 6 → ∀ x : Nat, x < 2 ^ w → pc x = ((List.range w).map (bit x)).sum ∧ pc x = ((List.range 6).map (bit x)).sum := by decide +kernel
theorem bit_high : ∀ w : Nat, w < 6 → ∀ x : Nat, x < 2 ^ w → ∀ j : Nat, j < 6 → w ≤ j → bit x j = 0 := by decide +kernel
theorem col_bit (p : List Int) (c : Nat) : ∀ n i, i < n → col p c n / 2 ^ i % 2 = rw_ p i / 2 ^ c % 2
  | 0, i, h => absurd h (Nat.not_lt_zero _)
  | n + 1, i, h => by
    rw [col]
    by_cases e : i = n
    · subst e
      have h1 := col_lt p c i
      have h2 : 0 < 2 ^ i := Nat.two_pow_pos i
      rw [Nat.add_mul_div_right _ _ h2, Nat.div_eq_of_lt h1]
      omega
    · have h1 := col_bit p c n i (by omega)
      obtain ⟨d, rfl⟩ : ∃ d, n = i + 1 + d := ⟨n - i - 1, by omega⟩
      have h2 : 0 < 2 ^ i := Nat.two_pow_pos i
      have e2 : rw_ p (i + 1 + d) / 2 ^ c % 2 * 2 ^ (i + 1 + d) = 2 * (rw_ p (i + 1 + d) / 2 ^ c % 2 * 2 ^ d) * 2 ^ i := by
        rw [show i + 1 + d = d + 1 + i by omega, Nat.pow_add, Nat.pow_succ]
        simp only [Nat.mul_assoc, Nat.mul_comm, Nat.mul_left_comm]
      rw [e2, Nat.add_mul_div_right _ _ h2, ← h1]
      omega
theorem map_eq {α β : Type} {f g : α → β} {l : List α} (h : ∀ x ∈ l, f x = g x) : l.map f = l.map g := List.map_congr_left h
theorem row_sums {w : Nat} {p : List Int} (h : Pic w p) : (rowsOf p p.length).map List.sum = (List.range p.length).map (rowS (bt p) (List.range 6)) := by
  unfold rowsOf
  rw [List.map_map]
  refine map_eq fun i hi => ?_
  have h1 := (rw_spec h (List.mem_range.mp hi)).2
  have h2 := pow32 h.w5
  show (blk (rw_ p i)).sum = _
  rw [(blk_spec (x := rw_ p i) (by omega)).1.2.1]
  exact (pc_bits w (by have := h.w5; omega) _ h1).2
theorem col_sums {w : Nat} {p : List Int} (h : Pic w p) : (colsOf p w).map List.sum ++ List.replicate (6 - w) 0 = (List.range 6).map (colS (bt p) p.length) := by
  have e6 : List.range 6 = List.range w ++ (List.range (6 - w)).map (w + ·) := by
    have := List.range_add (n := w) (m := 6 - w)
    rw [show w + (6 - w) = 6 by have := h.w5; omega] at this
    exact this
  rw [e6, List.map_append]
  congr 1
  · unfold colsOf
    rw [List.map_map]
    refine map_eq fun c hc => ?_
    show (blk (col p c p.length)).sum = _
    rw [(blk_spec (col_32 h c)).1.2.1, (pc_bits p.length (by have := h.h5; omega) _ (col_lt p c p.length)).1]
    unfold colS
    refine congrArg List.sum (map_eq fun i hi => ?_)
    unfold bt bit
    rw [col_bit p c p.length i (List.mem_range.mp hi)]
  · rw [List.map_map]
    refine (List.eq_replicate_iff.mpr ⟨by simp, fun y hy => ?_⟩).symm
    obtain ⟨j, hj, rfl⟩ := List.mem_map.mp hy
    show colS (bt p) p.length (w + j) = 0
    unfold colS
    show ((List.range p.length).map fun i => bit (rw_ p i) (w + j)).sum = 0
    rw [map_eq (g := fun _ => (0 : Int)) (fun i hi => bit_high w (by have := h.w5; omega) _ (rw_spec h (List.mem_range.mp hi)).2 (w + j) (by have := List.mem_range.mp hj; omega) (by omega)), sum_map_zero]
/-- zeros end a falling list of numbers from 0 on -/
theorem strip : ∀ {x : List Int}, Desc x → Nn x → ∃ a m, x = a ++ List.replicate m 0 ∧ ∀ y ∈ a, 1 ≤ y
  | [], _, _ => ⟨[], 0, rfl, by simp⟩
  | z :: l, hd, hn => by
    have hd' := List.pairwise_cons.mp hd
    by_cases e : z = 0
    · refine ⟨[], l.length + 1, ?_, by simp⟩
      rw [List.nil_append, List.replicate_succ, e]
      congr 1
      refine List.eq_replicate_iff.mpr ⟨rfl, fun y hy => ?_⟩
      have h1 := hd'.1 y hy
      have h2 := hn y (by simp [hy])
      omega
    · obtain ⟨a, m, rfl, ha⟩ := strip hd'.2 (fun y hy => hn y (by simp [hy]))
      refine ⟨z :: a, m, rfl, fun y hy => ?_⟩
      rcases List.mem_cons.mp hy with rfl | hy
      · have := hn y (by simp); omega
      · exact ha y hy
theorem desc_left {a b : List Int} (h : Desc (a ++ b)) : Desc a := (List.pairwise_append.mp h).1
theorem strip_l0 {c a : List Int} {K : Nat} (H : ∀ k', K ≤ k' → congoutop_TopGale.j4 k' c a = some true) (ha : ∀ y ∈ a, 1 ≤ y) (h0 : a ≠ []) (hl : a.length ≤ 100) : ∀ m k, m ≤ 100 → K + m + 1 ≤ k → congoutop_TopGale.l0 k c (a ++ List.replicate m 0) = some true := by
  have hpos : 0 < a.length := List.length_pos_iff.mpr h0
  intro m
  induction m with
  | zero =>
    intro k _ hk
    obtain ⟨k, rfl⟩ : ∃ m, k = m + 1 := ⟨k - 1, by omega⟩
    have e : wrap64 ((a.length : Int) - 1) = ((a.length - 1 : Nat) : Int) := by rw [w64 (by omega) (by omega)]; omega
    have h1 := ha _ (getD_mem (l := a) (i := a.length - 1) (by omega))
    rw [List.replicate_zero, List.append_nil, congoutop_TopGale.l0, if_pos (by omega), e, if_pos (by omega), if_pos (by omega), rd_at, if_neg (by omega)]
    exact H k (by omega)
  | succ m ih =>
    intro k hm hk
    obtain ⟨k, rfl⟩ : ∃ m, k = m + 1 := ⟨k - 1, by omega⟩
    have hlen : (a ++ List.replicate (m + 1) (0 : Int)).length = a.length + m + 1 := by simp; omega
    have e : wrap64 (((a ++ List.replicate (m + 1) (0 : Int)).length : Int) - 1) = ((a.length + m : Nat) : Int) := by rw [w64 (by omega) (by omega)]; omega
    have e2 : (a ++ List.replicate (m + 1) (0 : Int)).getD (a.length + m) 0 = 0 := by
      rw [List.getD_eq_getElem?_getD, List.getElem?_append_right (by omega), Nat.add_sub_cancel_left, List.getElem?_replicate]
      simp
    have e3 : (a ++ List.replicate (m + 1) (0 : Int)).take (a.length + m) = a ++ List.replicate m 0 := by
      rw [List.take_append, List.take_of_length_le (by omega), Nat.add_sub_cancel_left, List.take_replicate, Nat.min_eq_left (by omega)]
    rw [congoutop_TopGale.l0, if_pos (by omega), e, if_pos (by omega), if_pos (by omega), rd_at, e2, if_pos rfl, if_pos (by omega), Int.toNat_natCast, e3]
    exact ih k (by omega) (by omega)
theorem pad_l1 {c : List Int} {K : Nat} : ∀ n (t : List Int) k, t.length + n = 6 → (∀ k', K ≤ k' → shares_Uneven.f k' (t ++ List.replicate n 0) c = some (true, 0)) → 20 ≤ K → K + n + 1 ≤ k → congoutop_TopGale.l1 k c t = some true := by
  intro n
  induction n with
  | zero =>
    intro t k ht H hK hk
    obtain ⟨k, rfl⟩ : ∃ m, k = m + 1 := ⟨k - 1, by omega⟩
    have h1 := H k (by omega)
    rw [List.replicate_zero, List.append_nil] at h1
    rw [congoutop_TopGale.l1, if_neg (by omega), h1, Option.bind_some, if_pos rfl, if_pos rfl, tblocks_f k (by omega), Option.bind_some]
  | succ n ih =>
    intro t k ht H hK hk
    obtain ⟨k, rfl⟩ : ∃ m, k = m + 1 := ⟨k - 1, by omega⟩
    rw [congoutop_TopGale.l1, if_pos (by omega), if_pos (by omega)]
    refine ih (t ++ [0]) k (by simp; omega) (fun k' hk' => ?_) hK (by omega)
    rw [List.append_assoc]
    exact H k' hk'
/-- the rows turned over are at least as uneven as the columns -/
theorem law {R C a : List Int} {m : Nat} (hR : Nn R) (hC : Nn C) (hd : Desc C) (hda : Desc a) (ha : ∀ y ∈ a, 1 ≤ y ∧ y ≤ 5) (hp : (a ++ List.replicate m 0).Perm (R ++ List.replicate (6 - R.length) 0)) (hl : a.length ≤ 6) (hcl : C.length = 6)
    (hs : C.sum = R.sum) (h1 : 1 ≤ R.sum) (h12 : R.sum ≤ 12) (hg : ∀ k : Nat, psm C k ≤ R.sum - ex k R) (k : Nat) (hk : 400 ≤ k) : congoutop_TopGale.j4 k C a = some true := by
  obtain ⟨k, rfl⟩ : ∃ m, k = m + 1 := ⟨k - 1, by omega⟩
  have hsum : a.sum = R.sum := by have := sum_perm hp; rw [sum_zeros, sum_zeros] at this; exact this
  have hex : ∀ t : Nat, ex t a = ex t R := fun t => by have := ex_perm (t := (t : Int)) hp; rw [ex_zeros _ (by omega), ex_zeros _ (by omega)] at this; exact this
  have hna : Nn a := fun y hy => by have := ha y hy; omega
  have hPa : Pa a := pa_of ⟨hda, fun y hy => (ha y hy).1⟩ (by omega) (by omega)
  have htl : (turnOf a).length ≤ 6 := by
    unfold turnOf
    rw [List.length_map, List.length_range]
    cases a with
    | nil => simp
    | cons z a => have := ha z (by simp); simp only [List.headD_cons]; omega
  have hts := turn_sum hda hna
  have htp := turn_pos a
  have htn : Nn (turnOf a) := fun y hy => by have := htp y hy; omega
  rw [congoutop_TopGale.j4, Turn_f (by omega) k (by omega), dc_true hPa, if_pos rfl, Option.bind_some, if_pos rfl]
  obtain ⟨k, rfl⟩ : ∃ m, k = m + 1 := ⟨k - 1, by omega⟩
  rw [congoutop_TopGale.j5, if_neg (by simp; omega)]
  dsimp only
  refine pad_l1 (K := 60) (6 - (turnOf a).length) _ k (by omega) (fun k' hk' => ?_) (by omega) (by omega)
  have hlen : (turnOf a ++ List.replicate (6 - (turnOf a).length) (0 : Int)).length = 6 := by simp; omega
  have hx : Sh (turnOf a ++ List.replicate (6 - (turnOf a).length) 0) := ⟨by omega, by omega, fun y hy => by
    rcases List.mem_append.mp hy with h | h
    · have h3 := htp y h
      have h4 := nn_mem_le htn y h
      omega
    · have := (List.mem_replicate.mp h).2; omega⟩
  have hy : Sh C := ⟨by omega, by omega, fun y hy => by
    have h3 := hC y hy
    have h4 := nn_mem_le hC y hy
    omega⟩
  have hM : Maj (turnOf a ++ List.replicate (6 - (turnOf a).length) 0) C := by
    refine (Maj_desc (desc_zeros (turn_desc a) htn _) hd).mpr ⟨fun q => ?_, by rw [sum_zeros]; omega⟩
    rw [psm_zeros, turn_psm hda hna, hex, hsum]
    exact hg q
  rw [Uneven_f (by omega) (by omega) k' (by omega), dc_true (p := Two _ _) ⟨hx, hy, by omega⟩, if_pos rfl, dc_true hM]
theorem clone9_f (l : List Int) (h : l.length < 17592186044416) : slices_Clone_int_int.f l = some l := by
  simp [slices_Clone_int_int.f, h]
theorem row_5 (p : List Int) (i : Nat) : 0 ≤ rowS (bt p) (List.range 6) i ∧ rowS (bt p) (List.range 6) i ≤ 6 := by
  have h := bit_take (f := bt p i) (fun j => bit_01 _ _) (List.range 6) 6
  have e : (List.range 6).take 6 = List.range 6 := rfl
  rw [e] at h
  unfold rowS
  omega
theorem pic_law {w : Nat} {p : List Int} (h : Pic w p) (k : Nat) (hk : 1000 ≤ k) : congoutop_TopGale.j0 k (w : Int) p 0 false (rowsOf p p.length) (colsOf p w) = some true := by
  obtain ⟨k, rfl⟩ : ∃ m, k = m + 1 := ⟨k - 1, by omega⟩
  have hw := h.w5
  have hh := h.h5
  have hrs := row_sums h
  have hcs := col_sums h
  have hcsum : ((colsOf p w).map List.sum).sum = ((rowsOf p p.length).map List.sum).sum := by
    have h1 := sum_zeros ((colsOf p w).map List.sum) (6 - w)
    rw [hcs, both_sums] at h1
    rw [← h1, hrs]
  have hf : squares_Filled.f k (rowsOf p p.length) (colsOf p w) = some (((rowsOf p p.length).map List.sum).sum, 0) := by
    unfold squares_Filled.f
    rw [valid_f h k (by omega), Option.bind_some, if_pos rfl, filled_f (cl_rows h) k (by omega), Option.bind_some, filled_f (cl_cols h) k (by omega), Option.bind_some, if_pos hcsum.symm, Option.bind_some]
  rw [congoutop_TopGale.j0, if_neg (by decide), hf, Option.bind_some, if_pos rfl, clone9_f _ (by omega), Option.bind_some, Clues_f h k (by omega), Option.bind_some, if_pos rfl, if_pos (by rw [rows_len])]
  obtain ⟨k, rfl⟩ : ∃ m, k = m + 1 := ⟨k - 1, by omega⟩
  have hcl : (((colsOf p w).length : Int) != (w : Int)) = false := by rw [cols_len]; simp
  rw [congoutop_TopGale.j1]
  simp only [hcl]
  rw [if_neg (by decide), sums9_f (cl_rows h) k (by omega), Option.bind_some, sums9_f (cl_cols h) k (by omega), Option.bind_some, rows_len, cols_len, hcs, hrs]
  obtain ⟨R, hR⟩ : ∃ R, R = (List.range p.length).map (rowS (bt p) (List.range 6)) := ⟨_, rfl⟩
  have hRl : R.length = p.length := by rw [hR]; simp
  have hRb : ∀ y ∈ R, 0 ≤ y ∧ y ≤ 5 := by
    intro y hy
    rw [← hR, ] at hrs
    rw [← hrs] at hy
    obtain ⟨l, hl, rfl⟩ := List.mem_map.mp hy
    obtain ⟨i, hi, rfl⟩ := List.mem_map.mp hl
    have h1 := (rw_spec h (List.mem_range.mp hi)).2
    have h2 := pow32 h.w5
    rw [(blk_spec (x := rw_ p i) (by omega)).1.2.1]
    unfold pc
    have := bit_01 (rw_ p i) 0; have := bit_01 (rw_ p i) 1; have := bit_01 (rw_ p i) 2; have := bit_01 (rw_ p i) 3; have := bit_01 (rw_ p i) 4
    omega
  have hRn : Nn R := fun y hy => (hRb y hy).1
  obtain ⟨C, hC⟩ : ∃ C, C = fallOf ((List.range 6).map (colS (bt p) p.length)) := ⟨_, rfl⟩
  have hCp : C.Perm ((List.range 6).map (colS (bt p) p.length)) := by rw [hC]; exact fall_perm _
  have hCd : Desc C := by rw [hC]; exact fall_desc _
  have hCl : C.length = 6 := by rw [hCp.length_eq]; simp
  have hCn : Nn C := by
    intro y hy
    obtain ⟨j, hj, rfl⟩ := List.mem_map.mp (hCp.subset hy)
    have h1 := bit_take (f := fun i => bt p i j) (fun i => bit_01 _ _) (List.range p.length) 0
    exact h1.2.2
  have hCs : C.sum = R.sum := by rw [sum_perm hCp, both_sums, hR]
  have hg : ∀ q : Nat, psm C q ≤ R.sum - ex q R := fun q => by rw [hR]; exact gale (fun i j => bit_01 _ _) p.length 6 hCp q
  rw [← hR, ← hC]
  have hRs := nn_sum hRn
  by_cases c1 : R.sum < 1
  · rw [if_pos c1]
    obtain ⟨k, rfl⟩ : ∃ m, k = m + 1 := ⟨k - 1, by omega⟩
    rw [congoutop_TopGale.j2, if_pos rfl, if_pos (by omega), tblocks_f k (by omega), Option.bind_some]
  rw [if_neg c1]
  obtain ⟨k, rfl⟩ : ∃ m, k = m + 1 := ⟨k - 1, by omega⟩
  by_cases c2 : R.sum > 12
  · rw [congoutop_TopGale.j2, if_pos (decide_eq_true c2), if_pos (by omega), tblocks_f k (by omega), Option.bind_some]
  rw [congoutop_TopGale.j2, if_neg (by simpa using c2)]
  have hpz : (fallOf (R ++ List.replicate (6 - p.length) 0)).Perm (R ++ List.replicate (6 - p.length) 0) := fall_perm _
  have hlen : (fallOf (R ++ List.replicate (6 - p.length) 0)).length = 6 := by rw [hpz.length_eq]; simp; omega
  have hb : ∀ y ∈ fallOf (R ++ List.replicate (6 - p.length) 0), 0 ≤ y ∧ y ≤ 5 := by
    intro y hy
    rcases List.mem_append.mp (hpz.subset hy) with h9 | h9
    · exact hRb y h9
    · have := (List.mem_replicate.mp h9).2; omega
  obtain ⟨a, m, ham, ha⟩ := strip (fall_desc (R ++ List.replicate (6 - p.length) 0)) (fun y hy => (hb y hy).1)
  rw [clone9_f _ (by omega), Option.bind_some]
  rw [ham] at hlen hb hpz ⊢
  have hd := fall_desc (R ++ List.replicate (6 - p.length) 0)
  rw [ham] at hd
  have hal : a.length + m = 6 := by simpa using hlen
  have hne : a ≠ [] := by
    rintro rfl
    have := sum_perm hpz
    rw [sum_zeros, sum_zeros] at this
    simp at this; omega
  refine strip_l0 (K := 500) (fun k' hk' => ?_) ha hne (by omega) m k (by omega) (by omega)
  exact law hRn hCn hCd (desc_left hd) (fun y hy => ⟨ha y hy, (hb y (by simp [hy])).2⟩) (by rw [hRl]; exact hpz) (by omega) hCl hCs (by omega) (by omega) hg k' (by omega)
theorem TopGale : congoutop_TopGale.Pure := by
  intro a0 l1 _ hl _ _
  have hl : l1.length ≤ 17592186044416 * 16 := by unfold maxLen at hl; omega
  refine ⟨3000, ?_⟩
  have e : (mn (l1.length : Int) 8) = ((min l1.length 8 : Nat) : Int) := by rw [mn_min]; omega
  unfold congoutop_TopGale.f
  rw [e, if_pos (by omega), if_pos (by omega), Int.toNat_natCast]
  have e2 : l1.take (min l1.length 8) = l1.take 8 := by
    rcases Nat.le_total l1.length 8 with h | h
    · rw [Nat.min_eq_left h, List.take_of_length_le (Nat.le_refl _), List.take_of_length_le h]
    · rw [Nat.min_eq_right h]
  rw [e2, clone9_f _ (by rw [List.length_take]; omega), Option.bind_some]
  have hb : ∃ b, xIsPicture.f a0 (l1.take 8) = some b := ⟨_, rfl⟩
  obtain ⟨b, hb⟩ := hb
  cases b with
  | false =>
    have hc : squares_Clues.f 3000 a0 (l1.take 8) = some ([], [], 2) := by
      unfold squares_Clues.f
      rw [hb, Option.bind_some, if_neg (by decide)]
    rw [hc, Option.bind_some, if_neg (by decide), congoutop_TopGale.j0, if_pos rfl, if_pos rfl, tblocks_f _ (by omega), Option.bind_some]
  | true =>
    obtain ⟨w, rfl, hp⟩ := isPic_of hb
    have h5 := hp.h5
    have h8 : l1.take 8 = l1 := by
      rw [List.length_take] at h5
      exact List.take_of_length_le (by omega)
    rw [h8] at hp ⊢
    rw [Clues_f hp 3000 (by omega), Option.bind_some, if_pos rfl, picture_f hp 3000 (by omega), Option.bind_some]
    exact pic_law hp 3000 (by omega)
end Go.Proofs.YtkieehjpnjplmaaDoor.Pure
