/- SharesTurns: Turn returns parts turned over, and Below all that they are next above of, or the documented error. -/
import Derived.Test.YtefmafbbnkkpjaaXf14
import Derived.Test.YtefmafbbnkkpjaaSK
import Derived.Test.YtefmafbbnkkpjaaSX
import Derived.Test.YtefmafbbnkkpjaaXG1a
namespace Go.Proofs.Ytefmafbbnkkpjaa.Pure
open Go Go.RowKit Go.Proofs.Ytefmafbbnkkpjaa.X Go.Proofs.YtefmafbbnkkpjaaW.PrintWords Go.Proofs.YtefmafbbnkkpjaaW.PrintLast
set_option linter.unusedVariables false
set_option linter.unusedSimpArgs false

theorem rturn_in {a : List Int} (hl : a.length ≤ 100) (x0 x3 : List Int) (v x10 x11 : Int) (h3 : x3.length < 1000) : ∀ (n j k : Nat) (acc : Int), j + n = a.length → 0 ≤ acc → acc ≤ j →
    congouref01_Turn.l1 (k + n + 1) x0 x3 v acc x10 x11 a (a.length : Int) (j : Int) = congouref01_Turn.l0 k x0 (x3 ++ [acc + cnt (a.drop j) v]) x10 (wrap64 (x11 + 1)) := by
  intro n
  induction n with
  | zero =>
    intro j k acc hj h0 h1
    rw [congouref01_Turn.l1, if_neg (by omega), List.drop_of_length_le (by omega), if_pos (by omega)]
    simp [cnt]
  | succ n ih =>
    intro j k acc hj h0 h1
    rw [show k + (n + 1) + 1 = (k + n + 1) + 1 by omega, congouref01_Turn.l1, if_pos (by omega), if_pos (by omega), if_pos (by omega), w64 (i := acc + 1) (by omega) (by omega), w64 (i := (j : Int) + 1) (by omega) (by omega), show (j : Int) + 1 = ((j + 1 : Nat) : Int) by omega, rd_drop (l := a) (i := j) (by omega)]
    simp only [cnt]
    by_cases c : rd a (j : Int) > v
    · rw [if_pos c, if_pos c, ih (j + 1) k (acc + 1) (by omega) (by omega) (by omega), Int.add_assoc]
    · rw [if_neg c, if_neg c, ih (j + 1) k acc (by omega) (by omega) (by omega), Int.zero_add]
theorem rturn_l {a : List Int} (h : Pa a) (H : Nat) (hH : H ≤ 12) : ∀ n i k, i + n = H → n * 20 < k →
    congouref01_Turn.l0 k a ((List.range i).map fun (i : Nat) => cnt a (i : Int)) (H : Int) (i : Int) = some ((List.range H).map fun (i : Nat) => cnt a (i : Int)) := by
  have := h.len
  intro n
  induction n with
  | zero =>
    intro i k hi hk
    obtain ⟨k, rfl⟩ : ∃ m, k = m + 1 := ⟨k - 1, by omega⟩
    rw [congouref01_Turn.l0, if_neg (by omega), show i = H by omega]
  | succ n ih =>
    intro i k hi hk
    obtain ⟨k, rfl⟩ : ∃ m, k = (m + a.length + 1) + 1 := ⟨k - a.length - 2, by omega⟩
    have G := rturn_in (a := a) (by omega) a ((List.range i).map fun (i : Nat) => cnt a (i : Int)) (i : Int) (H : Int) (i : Int) (by rw [List.length_map, List.length_range]; omega) a.length 0 k 0 (by omega) (by omega) (by omega)
    rw [List.drop_zero, Int.zero_add, w64 (i := (i : Int) + 1) (by omega) (by omega), show (i : Int) + 1 = ((i + 1 : Nat) : Int) by omega] at G
    have e : (List.range i).map (fun (i : Nat) => cnt a (i : Int)) ++ [cnt a (i : Int)] = (List.range (i + 1)).map (fun (i : Nat) => cnt a (i : Int)) := by
      rw [List.range_succ, List.map_append]; rfl
    rw [e] at G
    rw [congouref01_Turn.l0, if_pos (by omega)]
    rw [show ((0 : Int)) = ((0 : Nat) : Int) by rfl] at G ⊢
    rw [G]
    exact ih (i + 1) k (by omega) (by omega)
theorem rturn_f {a : List Int} (h : Pa a) (k : Nat) (hk : 300 < k) : congouref01_Turn.f k a = some (turnOf a) := by
  have h1 := h.h1
  have e : rd a 0 = a.headD 0 := by
    cases a with
    | nil => simp at h1
    | cons x a => rfl
  have hm : a.headD 0 ≤ 12 ∧ 1 ≤ a.headD 0 := by
    cases a with
    | nil => simp at h1
    | cons x a => exact ⟨h.le x (by simp), h.pos x (by simp)⟩
  unfold congouref01_Turn.f
  rw [if_pos (by omega), e]
  have G := rturn_l h (a.headD 0).toNat (by omega) (a.headD 0).toNat 0 k (by omega) (by omega)
  rw [show (((a.headD 0).toNat : Nat) : Int) = a.headD 0 by omega] at G
  exact G
theorem rdT (l : List (List Int)) (i : Nat) (h : i < l.length) : rd_L1 l (i : Int) = l[i] := by
  simp [rd_L1, List.getD_eq_getElem?_getD, List.getElem?_eq_getElem h]
theorem eqF_l (a : List (List Int)) (hl : a.length ≤ 100000) (hb : ∀ r, r ∈ a → r.length ≤ 100) (d : Nat) : ∀ (k i : Nat), i + d = a.length → d + 200 < k → slices_EqualFunc_int_int_int_int_with31.l0 k a a (a.length : Int) (i : Int) = some true := by
  induction d with
  | zero =>
    intro k i hi hk
    obtain ⟨k, rfl⟩ : ∃ m, k = m + 1 := ⟨k - 1, by omega⟩
    rw [slices_EqualFunc_int_int_int_int_with31.l0, if_neg (by omega)]
  | succ d ih =>
    intro k i hi hk
    obtain ⟨k, rfl⟩ : ∃ m, k = m + 1 := ⟨k - 1, by omega⟩
    have hlt : i < a.length := by omega
    have := hb _ (List.getElem_mem hlt)
    rw [slices_EqualFunc_int_int_int_int_with31.l0, if_pos (by omega), if_pos (by omega), if_pos (by omega), if_pos (by omega), rdT a i hlt, Equal_f _ _ (by omega) k (by omega), dc_true rfl, Option.bind_some, if_pos rfl, show wrap64 ((i : Int) + 1) = ((i + 1 : Nat) : Int) by unfold wrap64; omega]
    exact ih k (i + 1) (by omega) (by omega)
theorem eqF_f (a : List (List Int)) (hl : a.length ≤ 100000) (hb : ∀ r, r ∈ a → r.length ≤ 100) (k : Nat) (hk : a.length + 200 < k) : slices_EqualFunc_int_int_int_int_with31.f k a a = some true := by
  unfold slices_EqualFunc_int_int_int_int_with31.f
  rw [if_pos rfl]
  exact eqF_l a hl hb a.length k 0 (by omega) (by omega)
theorem below_rows {a : List Int} (h : Pa a) : (belowU a).length ≤ 12 ∧ ∀ r, r ∈ belowU a → Pa r ∧ r.sum = a.sum := by
  have hck := chk_of h
  simp only [chkB, Bool.and_eq_true, decide_eq_true_eq, List.all_eq_true] at hck
  obtain ⟨⟨⟨k1, k2⟩, k3⟩, k4⟩ := hck
  unfold belowU
  refine ⟨by rw [List.length_reverse]; exact k3, fun r hr => ?_⟩
  rw [List.mem_reverse] at hr
  unfold outP at hr
  have hm := List.mem_of_mem_take (List.mem_filter.mp hr).1
  exact ⟨(paB_iff r).mp (k2 r hm).1, (k2 r hm).2⟩
theorem paB_dc (l : List Int) : paB l = dc (Pa l) := by
  cases h : paB l with
  | true => exact (dc_true ((paB_iff l).mp h)).symm
  | false => exact (dc_false (fun hp => by rw [(paB_iff l).mpr hp] at h; cases h)).symm
theorem SharesTurns : congoulaw01_SharesTurns.Pure := by
  intro a ha_ ha _
  refine ⟨2 * a.length + 1000, ?_⟩
  unfold congoulaw01_SharesTurns.f
  rw [list_f a (by omega)]
  simp only [Option.bind_some]
  rw [Turn_f (a := a.take 15) (take15 _) _ (by omega), dc_congr (pa_take (l := a)), Parts_f a (by omega) _ (by omega)]
  unfold xBelow.f xRBelow.f
  rw [if_pos (take15 _), paB_dc, paB_dc, dc_congr (pa_take (l := a))]
  simp only [Option.bind_some]
  by_cases h : Pa a
  · have hs := h.s1
    have hl := h.len
    have hbr := below_rows h
    have htl := (turn_pa h).len
    rw [dc_true h, pa_same h]
    simp only [if_true]
    rw [if_neg (by omega), rturn_f h _ (by omega)]
    simp only [Option.bind_some]
    rw [Equal_f _ _ (by omega) _ (by omega), dc_true rfl]
    simp only [Option.bind_some, if_true]
    rw [← same_of h, eqF_f _ (by omega) (fun r hr => by have := (hbr.2 r hr).1.len; omega) _ (by omega), awake_f _ (by omega)]
    rfl
  · rw [dc_false h]
    simp [awake_f _ (show 50 < 2 * a.length + 1000 by omega), wrap64]
end Go.Proofs.Ytefmafbbnkkpjaa.Pure
