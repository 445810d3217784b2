/- SketchSides: a table never says less than how often a key comes; each row sums to the length; two tables together are that of one stream behind the other. -/
import Derived.Test.YtdffhffhnjkcpaaXf10
import Derived.Test.YtdffhffhnjkcpaaS7
namespace Go.Proofs.Ytdffhffhnjkcpaa.Pure
set_option linter.unusedVariables false
set_option linter.unusedSimpArgs false
open Go.RowKit Go.Proofs.Ytdffhffhnjkcpaa.X Go.Proofs.YtdffhffhnjkcpaaW.PrintWords Go.Proofs.YtdffhffhnjkcpaaW.PrintLast

theorem sum_ind (n j : Nat) (c : Nat → Int) : ((List.range n).map fun i => c i + if j = i then 1 else 0).sum = ((List.range n).map c).sum + if j < n then 1 else 0 := by
  induction n with
  | zero => simp
  | succ n ih =>
    rw [List.range_succ, List.map_append, List.map_append, List.sum_append, List.sum_append, ih]
    simp only [List.map_cons, List.map_nil, List.sum_cons, List.sum_nil]
    by_cases h1 : j < n
    · rw [if_pos h1, if_neg (by omega), if_pos (by omega)]
      omega
    · by_cases h2 : j = n
      · rw [if_neg h1, if_pos h2, if_pos (by omega)]
        omega
      · rw [if_neg h1, if_neg h2, if_neg (by omega)]
        omega
theorem zeros_sum (n : Nat) : (List.replicate n (0 : Int)).sum = 0 := by
  induction n with
  | zero => rfl
  | succ n ih => rw [List.replicate_succ, List.sum_cons, ih]; rfl
theorem row_sum (r w : Int) (hw : 1 ≤ w) (s : List Int) : (rowC r w s).sum = s.length := by
  induction s with
  | nil => rw [rowC_nil, zeros_sum]; rfl
  | cons x s ih =>
    obtain ⟨h0, h1⟩ := idxU_range r w x hw
    have : rowC r w (x :: s) = (List.range w.toNat).map fun c => hit r w s c + if (idxU r w x).toNat = c then 1 else 0 := by
      unfold rowC
      apply List.map_congr_left
      intro c _
      unfold hit
      rw [List.countP_cons]
      by_cases h : (idxU r w x).toNat = c
      · rw [if_pos h, if_pos (by simp; omega)]
        omega
      · rw [if_neg h, if_neg (by simp; omega)]
        omega
    rw [this, sum_ind]
    unfold rowC at ih
    rw [ih, if_pos (by omega)]
    simp
theorem tabC_at (w : Int) (s : List Int) (n j : Nat) (h : j < (tabC w s n).length) : (tabC w s n)[j] = rowC (j : Int) w s := by
  simp [tabC]
theorem tabC_tab (w : Int) (s : List Int) (n : Nat) (hn : 1 ≤ n) (hn4 : n ≤ 4) (hw : 1 ≤ w) (hw8 : w ≤ 8) (hs : s.length ≤ 80) : tabB (tabC w s n) = true := by
  rw [tabB_iff, tabC_len]
  refine ⟨⟨hn, hn4⟩, fun r hr => ?_⟩
  have h0 : rd_L1 (tabC w s n) 0 = rowC 0 w s := by
    rw [show (0 : Int) = ((0 : Nat) : Int) from rfl, rdL_nat _ 0 (by rw [tabC_len]; omega), tabC_at]
  obtain ⟨j, hj, rfl⟩ := List.getElem_of_mem hr
  rw [tabC_at, h0, rowC_len, rowC_len]
  refine ⟨by omega, fun x hx => ?_⟩
  simp only [rowC, List.mem_map] at hx
  obtain ⟨c, _, rfl⟩ := hx
  have := hit_le (j : Int) w s c
  omega
theorem tabC_add (w : Int) (s u : List Int) (n : Nat) : addT (tabC w s n) (tabC w u n) = tabC w (s ++ u) n := by
  apply List.ext_getElem
  · simp [addT, tabC_len]
  · intro j h1 h2
    have h3 : j < n := by simpa [tabC_len] using h2
    have : (addT (tabC w s n) (tabC w u n))[j] = addR (rowC (j : Int) w s) (rowC (j : Int) w u) := by simp [addT, tabC]
    rw [this, tabC_at]
    apply List.ext_getElem
    · simp [addR, rowC_len]
    · intro c h4 h5
      simp [addR, rowC, hit]
theorem ask_ge (key b : Int) (t : List (List Int)) : ∀ (i : Nat) (m : Int), b ≤ m → (∀ j (h : j < t.length), b ≤ rd t[j] (idxU ((i + j : Nat) : Int) (t[j].length : Int) key)) → b ≤ askU key t i m := by
  induction t with
  | nil => intro i m hm _; exact hm
  | cons r t ih =>
    intro i m hm h
    unfold askU
    refine ih (i + 1) _ ?_ ?_
    · have := h 0 (by simp)
      simp only [List.getElem_cons_zero, Nat.add_zero] at this
      unfold mn
      split <;> omega
    · intro j hj
      have := h (j + 1) (by simp; omega)
      rw [show i + 1 + j = i + (j + 1) by omega]
      simpa using this
theorem ask_le (key : Int) (t : List (List Int)) : ∀ (i : Nat) (m : Int), askU key t i m ≤ m := by
  induction t with
  | nil => intro i m; exact Int.le_refl _
  | cons r t ih =>
    intro i m
    unfold askU
    refine Int.le_trans (ih _ _) ?_
    unfold mn
    split <;> omega
theorem hit_key (r w : Int) (s : List Int) (key : Nat) (hw : 1 ≤ w) : cnt s key ≤ hit r w s (idxU r w key).toNat := by
  obtain ⟨h0, _⟩ := idxU_range r w key hw
  unfold cnt hit
  have := List.countP_mono_left (l := s) (p := fun x => x == (key : Int)) (q := fun x => idxU r w x == (((idxU r w key).toNat : Nat) : Int)) (fun x _ hx => by
    have : x = (key : Int) := by simpa using hx
    subst this
    simp; omega)
  omega
theorem ask_tab (w : Int) (s : List Int) (n key : Nat) (hn : 1 ≤ n) (hw : 1 ≤ w) (hs : s.length ≤ 40) : cnt s key ≤ askU key (tabC w s n) 0 80 ∧ askU key (tabC w s n) 0 80 ≤ s.length := by
  have hrd : ∀ j, j < n → rd (rowC (j : Int) w s) (idxU (j : Int) ((rowC (j : Int) w s).length : Int) key) = hit (j : Int) w s (idxU (j : Int) w key).toNat := by
    intro j hj
    rw [rowC_len, show ((w.toNat : Nat) : Int) = w by omega]
    obtain ⟨h0, h1⟩ := idxU_range (j : Int) w key hw
    rw [rd_rowC _ _ _ _ h0 h1]
  constructor
  · refine ask_ge _ _ _ _ _ (by have := (cnt_le s key).2; omega) ?_
    intro j hj
    rw [tabC_len] at hj
    rw [tabC_at, Nat.zero_add, hrd j hj]
    exact hit_key _ _ _ _ hw
  · obtain ⟨n, rfl⟩ : ∃ m, n = m + 1 := ⟨n - 1, by omega⟩
    have : tabC w s (n + 1) = rowC ((0 : Nat) : Int) w s :: (List.range n).map (fun r : Nat => rowC ((r + 1 : Nat) : Int) w s) := by
      unfold tabC
      rw [List.range_succ_eq_map]
      simp
    rw [this]
    unfold askU
    refine Int.le_trans (ask_le _ _ _ _) ?_
    have h2 := hrd 0 (by omega)
    have h3 := hit_le ((0 : Nat) : Int) w s (idxU ((0 : Nat) : Int) w key).toNat
    rw [h2]
    unfold mn
    split <;> omega

theorem sum_take (l : List Int) (i : Nat) (h : i < l.length) : (l.take (i + 1)).sum = (l.take i).sum + l[i] := by
  rw [List.take_succ_eq_append_getElem h, List.sum_append]
  simp
theorem Sides_l1 (d w : Int) (s u : List Int) (t51 t9 : List (List Int)) (x52 x53 : Int) (row : List Int) (hr : row.length ≤ 8) (hx : ∀ x ∈ row, 0 ≤ x ∧ x ≤ 40) (hsum : row.sum = s.length) (m : Nat) : ∀ (k i : Nat), i + m = row.length → 0 ≤ (row.take i).sum → (row.take i).sum ≤ 40 * i →
    congoulaw03_SketchSides.l1 (k + m + 1) d w s u t9 (row.take i).sum t51 x52 x53 row (row.length : Int) (i : Int) = congoulaw03_SketchSides.l0 k d w s u t9 t51 x52 (wrap64 (x53 + 1)) := by
  induction m with
  | zero =>
    intro k i hi h0 h1
    simp only [congoulaw03_SketchSides.l1]
    rw [if_neg (by omega), List.take_of_length_le (by omega), if_pos hsum]
  | succ m ih =>
    intro k i hi h0 h1
    have hlt : i < row.length := by omega
    have hb := hx row[i] (List.getElem_mem _)
    have hst := sum_take row i hlt
    have hn := ih k (i + 1) (by omega) (by omega) (by omega)
    rw [show k + (m + 1) + 1 = (k + m + 1) + 1 by omega]
    generalize k + m + 1 = q at hn ⊢
    simp only [congoulaw03_SketchSides.l1]
    rw [if_pos (by omega), if_pos (by omega), if_pos (by omega), rd_nat row i hlt, w64 (i := (row.take i).sum + row[i]) (by omega) (by omega), ← hst, w64 (by omega) (by omega), cast1]
    exact hn
theorem Sides_l0 (d w : Int) (s u : List Int) (n : Nat) (hw : 1 ≤ w) (hw8 : w ≤ 8) (hs : s.length ≤ 40) (m : Nat) : ∀ (k i : Nat), i + m = n → n ≤ 4 →
    congoulaw03_SketchSides.l0 (k + m * 11 + 1) d w s u (tabC w s n) (tabC w s n) ((tabC w s n).length : Int) (i : Int) = congoulaw03_SketchSides.l2 (k + m * (9 - w.toNat)) d w s u (tabC w s n) 0 := by
  induction m with
  | zero =>
    intro k i hi hn
    simp only [Nat.zero_mul, Nat.add_zero, congoulaw03_SketchSides.l0]
    rw [if_neg (by rw [tabC_len]; omega)]
  | succ m ih =>
    intro k i hi hn
    have hlt : i < (tabC w s n).length := by rw [tabC_len]; omega
    have hrow : rd_L1 (tabC w s n) (i : Int) = rowC (i : Int) w s := by rw [rdL_nat _ i hlt, tabC_at]
    have hl := rowC_len (i : Int) w s
    have h1 := Sides_l1 d w s u (tabC w s n) (tabC w s n) ((tabC w s n).length : Int) (i : Int) (rowC (i : Int) w s) (by omega) (fun x hx => by
      simp only [rowC, List.mem_map] at hx
      obtain ⟨c, _, rfl⟩ := hx
      have := hit_le (i : Int) w s c
      omega) (row_sum _ w hw s) (rowC (i : Int) w s).length (k + (9 - w.toNat) + m * 11 + 1) 0 (by omega) (by simp) (by simp)
    rw [show k + (m + 1) * 11 + 1 = (k + (9 - w.toNat) + m * 11 + 1 + (rowC (i : Int) w s).length + 1) + 1 by omega]
    have hn2 := ih (k + (9 - w.toNat)) (i + 1) (by omega) hn
    generalize k + (9 - w.toNat) + m * 11 + 1 = q at h1 hn2 ⊢
    generalize hq2 : q + (rowC (i : Int) w s).length + 1 = q2 at h1 ⊢
    simp only [congoulaw03_SketchSides.l0]
    rw [tabC_len] at hlt
    rw [if_pos (by rw [tabC_len]; omega), if_pos (by omega), if_pos (by rw [tabC_len]; omega), hrow]
    simp only [List.take_zero, List.sum_nil] at h1
    rw [show ((0 : Nat) : Int) = 0 from rfl] at h1
    rw [h1, w64 (by omega) (by omega), cast1, hn2]
    congr 1
    rw [Nat.succ_mul]
    omega
theorem Sides_end (d w : Int) (s u : List Int) (hz : sizeB d w = true) (hs : streamB s = true) (hu : u.length ≤ 17592186043904) (k : Nat) (hk2 : 1000 < k) :
    congoulaw03_SketchSides.l2 k d w s u (tabC w s d.toNat) 16 = some true := by
  have h : 1 ≤ d ∧ d ≤ 4 ∧ 1 ≤ w ∧ w ≤ 8 := by simpa [sizeB] using hz
  obtain ⟨hl, hx⟩ := (streamB_iff s).mp hs
  obtain ⟨k, rfl⟩ : ∃ m, k = m + 1 := ⟨k - 1, by omega⟩
  have hts := tabC_tab w s d.toNat (by omega) (by omega) h.2.2.1 h.2.2.2 (by omega)
  simp only [congoulaw03_SketchSides.l2]
  rw [if_neg (by decide), list_f u (by omega)]
  simp only [Option.bind_some]
  rw [Table_f d w _ k (by rw [List.length_take]; omega), streamB_take]
  simp only [Option.bind_some]
  cases hus : streamB u with
  | false => simp [hz, awake_f]
  | true =>
    obtain ⟨hul, hux⟩ := (streamB_iff u).mp hus
    simp only [hz, and_self, if_true]
    rw [take_of_stream u hus]
    have htu := tabC_tab w u d.toNat (by omega) (by omega) h.2.2.1 h.2.2.2 (by omega)
    have hta := tabC_tab w (s ++ u) d.toNat (by omega) (by omega) h.2.2.1 h.2.2.2 (by simp; omega)
    have h0 : ∀ v : List Int, (rd_L1 (tabC w v d.toNat) 0).length = w.toNat := fun v => by
      rw [show (0 : Int) = ((0 : Nat) : Int) from rfl, rdL_nat _ 0 (by rw [tabC_len]; omega), tabC_at, rowC_len]
    have hsame : sameB (tabC w s d.toNat) (tabC w u d.toNat) := ⟨hts, htu, by rw [tabC_len, tabC_len], by rw [h0, h0]⟩
    rw [table_f _ (by rw [tabC_len]; omega) (fun r hr => by have := tabC_rows w s d.toNat h.2.2.2 r hr; omega) k (by rw [tabC_len]; omega), truncT_same _ hts]
    simp only [Option.bind_some]
    rw [Add_f _ _ k (by omega), if_pos hsame, tabC_add, hta, if_pos rfl, list_f s (by omega), take_of_stream s hs]
    simp only [Option.bind_some]
    rw [if_pos (by omega)]
    by_cases hbig : s.length + u.length ≤ 40
    · have hsu : streamB (s ++ u) = true := by
        rw [streamB_iff]
        refine ⟨by simp; omega, fun x hx2 => ?_⟩
        rcases List.mem_append.mp hx2 with h3 | h3
        · exact hx x h3
        · exact hux x h3
      have hT := Table_f d w (s ++ u) k (by rw [List.length_append]; omega)
      rw [if_pos ⟨hz, hsu⟩] at hT
      rw [hT, Option.bind_some, w64 (i := (s.length : Int) + (u.length : Int)) (by omega) (by omega), if_neg (show ¬ (s.length : Int) + (u.length : Int) > 40 by omega), if_pos trivial, if_pos rfl]
      have he := equal_f (tabC w (s ++ u) d.toNat) (tabC w (s ++ u) d.toNat) 9 (tabC_rows w _ _ h.2.2.2) (by omega) (by rw [tabC_len]; omega) k (by rw [tabC_len]; omega)
      rw [decide_eq_true rfl] at he
      have hl2 : ((tabC w s d.toNat).length : Int) = d := by rw [tabC_len]; omega
      rw [he, Option.bind_some, if_pos rfl, if_pos hl2, awake_f, Option.bind_some]
    · have hsu : ¬ streamB (s ++ u) = true := by
        rw [streamB_iff]
        intro h3
        have := h3.1
        simp at this
        omega
      have hT := Table_f d w (s ++ u) k (by rw [List.length_append]; omega)
      rw [if_neg (fun h3 => hsu h3.2)] at hT
      rw [hT, Option.bind_some, w64 (i := (s.length : Int) + (u.length : Int)) (by omega) (by omega), if_pos (show (s.length : Int) + (u.length : Int) > 40 by omega), if_pos trivial, if_pos rfl, awake_f, Option.bind_some]
theorem Sides_l2 (d w : Int) (s u : List Int) (hz : sizeB d w = true) (hs : streamB s = true) (hu : u.length ≤ 17592186043904) (m : Nat) : ∀ (k i : Nat), i + m = 16 → 1000 + m < k →
    congoulaw03_SketchSides.l2 k d w s u (tabC w s d.toNat) (i : Int) = some true := by
  have h : 1 ≤ d ∧ d ≤ 4 ∧ 1 ≤ w ∧ w ≤ 8 := by simpa [sizeB] using hz
  obtain ⟨hl, hx⟩ := (streamB_iff s).mp hs
  have hts := tabC_tab w s d.toNat (by omega) (by omega) h.2.2.1 h.2.2.2 (by omega)
  induction m with
  | zero =>
    intro k i hi hk
    obtain rfl : i = 16 := by omega
    exact Sides_end d w s u hz hs hu k (by omega)
  | succ m ih =>
    intro k i hi hk
    obtain ⟨k, rfl⟩ : ∃ m, k = m + 1 := ⟨k - 1, by omega⟩
    have hn := ih k (i + 1) (by omega) (by omega)
    have hkey : keyB (i : Int) = true := by simp [keyB]; omega
    obtain ⟨h1, h2⟩ := ask_tab w s d.toNat i (by omega) h.2.2.1 hl
    simp only [congoulaw03_SketchSides.l2]
    rw [if_pos (by omega), list_f s (by omega), take_of_stream s hs]
    simp only [Option.bind_some, xOften.f]
    rw [table_f _ (by rw [tabC_len]; omega) (fun r hr => by have := tabC_rows w s d.toNat h.2.2.2 r hr; omega) k (by rw [tabC_len]; omega), truncT_same _ hts]
    simp only [Option.bind_some]
    rw [Ask_f _ _ k (by omega), if_pos ⟨hts, hkey⟩, if_pos ⟨hs, hkey⟩]
    simp only [Option.bind_some, if_true, Int.toNat_natCast]
    rw [if_neg (by omega), if_neg (by omega), w64 (by omega) (by omega), cast1]
    exact hn
theorem SketchSides : congoulaw03_SketchSides.Pure := by
  intro a0 a1 l2 l3 _ _ _ h2 _ _ h3 _
  have hlen : l2.length ≤ 17592186044416 := by omega
  refine ⟨4 * l2.length + 2000 + 1, ?_⟩
  unfold congoulaw03_SketchSides.f
  rw [list_f l2 hlen]
  simp only [Option.bind_some]
  rw [Table_f a0 a1 _ _ (by rw [List.length_take]; omega)]
  simp only [Option.bind_some, streamB_take, Size_f]
  rw [Stream_f l2 hlen _ (by omega)]
  cases hz : sizeB a0 a1 with
  | false => simp [congoulaw03_SketchSides.j0, awake_f]
  | true =>
    cases hs : streamB l2 with
    | false => simp [congoulaw03_SketchSides.j0, awake_f]
    | true =>
      have h : 1 ≤ a0 ∧ a0 ≤ 4 ∧ 1 ≤ a1 ∧ a1 ≤ 8 := by simpa [sizeB] using hz
      obtain ⟨hl, hx⟩ := (streamB_iff l2).mp hs
      rw [take_of_stream l2 hs]
      simp only [and_self, if_true, Option.bind_some, Bool.not_true]
      simp only [congoulaw03_SketchSides.j0]
      rw [if_neg (by decide)]
      have h0 := Sides_l0 a0 a1 l2 l3 a0.toNat h.2.2.1 h.2.2.2 hl a0.toNat (4 * l2.length + 2000 - a0.toNat * 11 - 1) 0 (by omega) (by omega)
      rw [show 4 * l2.length + 2000 - a0.toNat * 11 - 1 + a0.toNat * 11 + 1 = 4 * l2.length + 2000 by omega] at h0
      rw [show ((0 : Nat) : Int) = 0 from rfl] at h0
      rw [h0]
      exact Sides_l2 a0 a1 l2 l3 hz hs (by omega) 16 _ 0 (by omega) (by omega)
end Go.Proofs.Ytdffhffhnjkcpaa.Pure
