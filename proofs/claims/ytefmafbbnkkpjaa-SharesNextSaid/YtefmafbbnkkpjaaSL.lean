/- Parts turned over, and the lesser ones of first sums. -/
import Derived.Test.YtefmafbbnkkpjaaSM
namespace Go.Proofs.Ytefmafbbnkkpjaa.Pure
open Go Go.RowKit Go.Proofs.Ytefmafbbnkkpjaa.X
set_option linter.unusedVariables false
set_option linter.unusedSimpArgs false

/-- parts of a number -/
structure Pt (a : List Int) : Prop where
  desc : Desc a
  pos : ∀ x ∈ a, 1 ≤ x
theorem Pt.nn {a : List Int} (h : Pt a) : Nn a := fun x hx => by have := h.pos x hx; omega
theorem pt_tail {x : Int} {a : List Int} (h : Pt (x :: a)) : Pt a := ⟨(List.pairwise_cons.mp h.desc).2, fun y hy => h.pos y (by simp [hy])⟩
theorem pt_ext : ∀ {a b : List Int}, Pt a → Pt b → (∀ k, psm a k = psm b k) → a = b
  | [], [], _, _, _ => rfl
  | [], y :: b, _, hb, h => by
    have h1 := h 1
    have := hb.pos y (by simp)
    rw [psm_cons, psm_nil, psm_zero] at h1; omega
  | x :: a, [], ha, _, h => by
    have h1 := h 1
    have := ha.pos x (by simp)
    rw [psm_cons, psm_nil, psm_zero] at h1; omega
  | x :: a, y :: b, ha, hb, h => by
    have h1 := h 1
    rw [psm_cons, psm_cons, psm_zero, psm_zero] at h1
    have e : x = y := by omega
    subst e
    rw [pt_ext (pt_tail ha) (pt_tail hb) fun k => by have := h (k + 1); rw [psm_cons, psm_cons] at this; omega]
theorem pt_len : ∀ {a : List Int}, (∀ x ∈ a, 1 ≤ x) → (a.length : Int) ≤ a.sum
  | [], _ => by simp
  | x :: a, h => by
    have h1 := h x (by simp)
    have h2 := pt_len (a := a) (fun y hy => h y (by simp [hy]))
    simp only [List.length_cons, List.sum_cons]; omega
theorem nn_mem_le : ∀ {a : List Int}, Nn a → ∀ x ∈ a, x ≤ a.sum
  | [], _, x, hx => by simp at hx
  | y :: a, h, x, hx => by
    have h1 := h y (by simp)
    have h0 : 0 ≤ a.sum := by have := ex_zero (l := a) (fun z hz => h z (by simp [hz])); have := ex_nonneg 0 a; omega
    simp only [List.sum_cons]
    rcases List.mem_cons.mp hx with e | e
    · omega
    · have := nn_mem_le (a := a) (fun z hz => h z (by simp [hz])) x e; omega

/-- how many numbers are above one -/
def cnt : List Int → Int → Int
  | [], _ => 0
  | x :: l, i => (if i < x then 1 else 0) + cnt l i
theorem cnt_nonneg (i : Int) : ∀ l, 0 ≤ cnt l i
  | [] => Int.le_refl _
  | x :: l => by have := cnt_nonneg i l; simp only [cnt]; split <;> omega
theorem cnt_mono {i j : Int} (h : i ≤ j) : ∀ l, cnt l j ≤ cnt l i
  | [] => Int.le_refl _
  | x :: l => by
    have := cnt_mono h l
    simp only [cnt]
    split <;> split <;> omega
theorem cnt_ex (i : Int) : ∀ l, cnt l i = ex i l - ex (i + 1) l
  | [] => by simp [cnt, ex]
  | x :: l => by
    have := cnt_ex i l
    simp only [cnt, ex]
    split <;> omega
theorem cnt_zero {i : Int} : ∀ {l : List Int}, (∀ x ∈ l, x ≤ i) → cnt l i = 0
  | [], _ => rfl
  | x :: l, h => by
    have h1 := h x (by simp)
    have h2 := cnt_zero (l := l) (fun y hy => h y (by simp [hy]))
    simp only [cnt, h2]
    rw [if_neg (by omega)]; rfl
/-- parts turned over -/
def turnOf (a : List Int) : List Int := (List.range (a.headD 0).toNat).map fun (i : Nat) => cnt a (i : Int)
theorem head_max {a : List Int} (h : Desc a) : ∀ x ∈ a, x ≤ a.headD 0 := by
  cases a with
  | nil => simp
  | cons y a =>
    intro x hx
    simp only [List.headD_cons]
    rcases List.mem_cons.mp hx with e | e
    · omega
    · exact (List.pairwise_cons.mp h).1 x e
theorem turn_getD {a : List Int} (h : Desc a) (i : Nat) : (turnOf a).getD i 0 = cnt a i := by
  rw [List.getD_eq_getElem?_getD]
  rcases Nat.lt_or_ge i (a.headD 0).toNat with c | c
  · rw [turnOf, List.getElem?_map, List.getElem?_range c]; rfl
  · have e : (turnOf a)[i]? = none := List.getElem?_eq_none (by simp only [turnOf, List.length_map, List.length_range]; exact c)
    rw [e, Option.getD_none, cnt_zero fun x hx => by have := head_max h x hx; omega]
theorem turn_psm {a : List Int} (h : Desc a) (n : Nn a) : ∀ t : Nat, psm (turnOf a) t = a.sum - ex t a
  | 0 => by rw [psm_zero]; have := ex_zero n; simp; omega
  | t + 1 => by
    have e := cnt_ex t a
    rw [psm_succ, turn_psm h n t, turn_getD h]; simp; omega
theorem turn_desc (a : List Int) : Desc (turnOf a) := by
  refine List.pairwise_iff_getElem.mpr fun i j hi hj hij => ?_
  simp only [turnOf, List.getElem_map, List.getElem_range]
  exact cnt_mono (by omega) a
theorem cnt_pos {i : Int} : ∀ {a : List Int}, i < a.headD 0 → a ≠ [] → 1 ≤ cnt a i
  | [], _, h => absurd rfl h
  | x :: a, h, _ => by
    have := cnt_nonneg i a
    simp only [List.headD_cons] at h
    simp only [cnt, if_pos h]; omega
theorem turn_pos (a : List Int) : ∀ x ∈ turnOf a, 1 ≤ x := by
  intro x hx
  simp only [turnOf, List.mem_map, List.mem_range] at hx
  obtain ⟨i, hi, rfl⟩ := hx
  refine cnt_pos (by omega) ?_
  rintro rfl
  simp at hi
theorem turn_pt (a : List Int) : Pt (turnOf a) := ⟨turn_desc a, turn_pos a⟩
theorem ex_big {t : Int} : ∀ {a : List Int}, (∀ x ∈ a, x ≤ t) → ex t a = 0
  | [], _ => rfl
  | x :: a, h => by
    have h1 := h x (by simp)
    have h2 := ex_big (a := a) (fun y hy => h y (by simp [hy]))
    simp only [ex]; omega
theorem nn_sum {a : List Int} (n : Nn a) : 0 ≤ a.sum := by have := ex_zero n; have := ex_nonneg 0 a; omega
theorem turn_sum {a : List Int} (h : Desc a) (n : Nn a) : (turnOf a).sum = a.sum := by
  have e := turn_psm h n (a.sum.toNat + (turnOf a).length)
  rw [psm_all (by omega), ex_big] at e
  · omega
  · intro x hx
    have := nn_mem_le n x hx
    omega
/-- the least first sum, by bounds -/
theorem psm_att {a : List Int} (h : Desc a) (n : Nn a) (k : Nat) : ∃ t : Nat, psm a k = k * t + ex t a := by
  rcases Nat.lt_or_ge a.length k with c | c
  · exact ⟨0, by rw [psm_all (Nat.le_of_lt c), ← ex_zero n]; simp⟩
  · rcases k with _ | k
    · refine ⟨a.sum.toNat, ?_⟩
      rw [psm_zero, ex_big]
      · simp
      · intro x hx; have := nn_mem_le n x hx; omega
    · obtain ⟨h1, h2⟩ := take_ge a h k c
      have h0 : 0 ≤ a[k] := n _ (List.getElem_mem _)
      refine ⟨a[k].toNat, ?_⟩
      rw [Int.toNat_of_nonneg h0]
      exact psm_eq a[k] a (k + 1) c h1 h2
theorem turn_ex {a : List Int} (h : Desc a) (n : Nn a) (k : Nat) : ex k (turnOf a) = a.sum - psm a k := by
  obtain ⟨t, h1, h2, h3⟩ := cut_at k (turnOf a) (turn_desc a)
  have e1 := psm_eq k (turnOf a) t h1 h2 h3
  have e2 := psm_le t (by omega) a k
  obtain ⟨s, e3⟩ := psm_att h n k
  have e4 := psm_le k (by omega) (turnOf a) s
  rw [turn_psm h n] at e1 e4
  rw [Int.mul_comm] at e1 e4
  omega
theorem turn_turn {a : List Int} (h : Pt a) : turnOf (turnOf a) = a := by
  refine pt_ext (turn_pt _) h fun k => ?_
  rw [turn_psm (turn_desc a) (turn_pt a).nn, turn_ex h.desc h.nn, turn_sum h.desc h.nn]; omega
theorem turn_maj {a b : List Int} (ha : Pt a) (hb : Pt b) (hs : a.sum = b.sum) : Maj (turnOf b) (turnOf a) ↔ Maj a b := by
  rw [Maj_desc (turn_desc b) (turn_desc a), Maj_iff ha.nn hb.nn, turn_sum ha.desc ha.nn, turn_sum hb.desc hb.nn]
  constructor
  · intro ⟨h, _⟩
    refine ⟨fun t ht => ?_, hs⟩
    have := h t.toNat
    rw [turn_psm ha.desc ha.nn, turn_psm hb.desc hb.nn, Int.toNat_of_nonneg ht] at this
    omega
  · intro ⟨h, _⟩
    refine ⟨fun k => ?_, hs.symm⟩
    have := h k (by omega)
    rw [turn_psm ha.desc ha.nn, turn_psm hb.desc hb.nn]
    omega

/-! ### the lesser first sums -/
def mu (a b : List Int) (k : Nat) : Int := min (psm a k) (psm b k)
/-- the rises of the lesser first sums that are above 0 -/
def mt (a b : List Int) : Nat → Nat → List Int
  | 0, _ => []
  | n + 1, k => if mu a b k < mu a b (k + 1) then (mu a b (k + 1) - mu a b k) :: mt a b n (k + 1) else mt a b n (k + 1)
def meetOf (a b : List Int) : List Int := mt a b 12 0
theorem psm_conc {a : List Int} (h : Desc a) (n : Nn a) (k : Nat) : psm a k + psm a (k + 2) ≤ 2 * psm a (k + 1) := by
  rw [psm_succ a (k + 1), psm_succ a k]
  rcases Nat.lt_or_ge (k + 1) a.length with c | c
  · have := desc_getD h (show k < k + 1 by omega) c
    omega
  · have e : a.getD (k + 1) 0 = 0 := by rw [List.getD_eq_getElem?_getD, List.getElem?_eq_none c, Option.getD_none]
    have : 0 ≤ a.getD k 0 := by
      rw [List.getD_eq_getElem?_getD]
      cases h : a[k]? with
      | none => simp
      | some v => exact n _ (List.mem_of_getElem? h)
    omega
theorem psm_mono {a : List Int} (n : Nn a) (k : Nat) : psm a k ≤ psm a (k + 1) := by
  rw [psm_succ]
  have : 0 ≤ a.getD k 0 := by
    rw [List.getD_eq_getElem?_getD]
    cases h : a[k]? with
    | none => simp
    | some v => exact n _ (List.mem_of_getElem? h)
  omega
theorem mu_conc {a b : List Int} (ha : Pt a) (hb : Pt b) (k : Nat) : mu a b k + mu a b (k + 2) ≤ 2 * mu a b (k + 1) := by
  have := psm_conc ha.desc ha.nn k
  have := psm_conc hb.desc hb.nn k
  unfold mu; omega
theorem mu_mono {a b : List Int} (ha : Pt a) (hb : Pt b) (k : Nat) : mu a b k ≤ mu a b (k + 1) := by
  have := psm_mono ha.nn k
  have := psm_mono hb.nn k
  unfold mu; omega
theorem mu_flat {a b : List Int} (ha : Pt a) (hb : Pt b) {k : Nat} (h : mu a b (k + 1) = mu a b k) : ∀ j, mu a b (k + j) = mu a b k ∧ mu a b (k + j + 1) = mu a b k
  | 0 => ⟨rfl, h⟩
  | j + 1 => by
    obtain ⟨h1, h2⟩ := mu_flat ha hb h j
    have := mu_conc ha hb (k + j)
    have := mu_mono ha hb (k + j + 1)
    refine ⟨h2, ?_⟩
    rw [show k + (j + 1) + 1 = k + j + 1 + 1 by omega]
    rw [show k + j + 2 = k + j + 1 + 1 by omega] at *
    omega
theorem mt_flat {a b : List Int} (ha : Pt a) (hb : Pt b) {k : Nat} (h : mu a b (k + 1) = mu a b k) : ∀ n j, mt a b n (k + j) = []
  | 0, _ => rfl
  | n + 1, j => by
    obtain ⟨h1, h2⟩ := mu_flat ha hb h j
    rw [mt, if_neg (by omega)]
    exact mt_flat ha hb h n (j + 1)
theorem mt_facts {a b : List Int} (ha : Pt a) (hb : Pt b) : ∀ n k, (∀ x ∈ mt a b n k, 1 ≤ x ∧ x ≤ mu a b (k + 1) - mu a b k) ∧ Desc (mt a b n k) ∧ ∀ j, psm (mt a b n k) j = mu a b (k + min j n) - mu a b k
  | 0, k => ⟨by simp [mt], by simp [mt, Desc], fun j => by simp [mt, psm_nil]⟩
  | n + 1, k => by
    have hc := mu_conc ha hb k
    have hm := mu_mono ha hb k
    obtain ⟨h1, h2, h3⟩ := mt_facts ha hb n (k + 1)
    rw [show k + 2 = k + 1 + 1 by omega] at hc
    by_cases c : mu a b k < mu a b (k + 1)
    · rw [mt, if_pos c]
      refine ⟨fun x hx => ?_, List.pairwise_cons.mpr ⟨fun x hx => ?_, h2⟩, fun j => ?_⟩
      · rcases List.mem_cons.mp hx with e | e
        · omega
        · have := h1 x e; omega
      · have := h1 x hx; omega
      · cases j with
        | zero => simp [psm_zero]
        | succ j =>
          rw [psm_cons, h3 j, show k + 1 + min j n = k + min (j + 1) (n + 1) by omega]; omega
    · have e : mu a b (k + 1) = mu a b k := by omega
      have e2 : mt a b (n + 1) k = [] := mt_flat ha hb e (n + 1) 0
      rw [e2]
      refine ⟨by simp, by simp [Desc], fun j => ?_⟩
      rw [psm_nil, (mu_flat ha hb e (min j (n + 1))).1]; omega
theorem meet_pt {a b : List Int} (ha : Pt a) (hb : Pt b) : Pt (meetOf a b) :=
  ⟨(mt_facts ha hb 12 0).2.1, fun x hx => ((mt_facts ha hb 12 0).1 x hx).1⟩
theorem meet_psm {a b : List Int} (ha : Pt a) (hb : Pt b) (la : a.length ≤ 12) (lb : b.length ≤ 12) (k : Nat) : psm (meetOf a b) k = min (psm a k) (psm b k) := by
  unfold meetOf
  rw [(mt_facts ha hb 12 0).2.2 k]
  have e0 : mu a b 0 = 0 := by simp [mu, psm_zero]
  rw [e0]
  rcases Nat.lt_or_ge k 12 with c | c
  · rw [show 0 + min k 12 = k by omega]; unfold mu; omega
  · rw [show 0 + min k 12 = 12 by omega]; unfold mu; rw [psm_all la, psm_all lb, psm_all (Nat.le_trans la c), psm_all (Nat.le_trans lb c)]; omega
theorem meet_sum {a b : List Int} (ha : Pt a) (hb : Pt b) (la : a.length ≤ 12) (lb : b.length ≤ 12) (hs : a.sum = b.sum) : (meetOf a b).sum = a.sum := by
  have e := meet_psm ha hb la lb ((meetOf a b).length + 12)
  rw [psm_all (by omega), psm_all (by omega), psm_all (by omega)] at e
  omega
theorem meet_comm (a b : List Int) : meetOf a b = meetOf b a := by
  have e : ∀ k, mu a b k = mu b a k := fun k => by unfold mu; omega
  have : ∀ n k, mt a b n k = mt b a n k := by
    intro n
    induction n with
    | zero => intro k; rfl
    | succ n ih => intro k; rw [mt, mt, e, e, ih]
  exact this 12 0
theorem meet_below {a b : List Int} (ha : Pt a) (hb : Pt b) (la : a.length ≤ 12) (lb : b.length ≤ 12) (hs : a.sum = b.sum) : Maj a (meetOf a b) := by
  rw [Maj_desc ha.desc (meet_pt ha hb).desc]
  exact ⟨fun k => by rw [meet_psm ha hb la lb]; omega, (meet_sum ha hb la lb hs).symm⟩
theorem meet_great {a b c : List Int} (ha : Pt a) (hb : Pt b) (hc : Pt c) (la : a.length ≤ 12) (lb : b.length ≤ 12) (h1 : Maj a c) (h2 : Maj b c) : Maj (meetOf a b) c := by
  have hs : a.sum = b.sum := h1.2.trans h2.2.symm
  rw [Maj_desc ha.desc hc.desc] at h1
  rw [Maj_desc hb.desc hc.desc] at h2
  rw [Maj_desc (meet_pt ha hb).desc hc.desc]
  exact ⟨fun k => by rw [meet_psm ha hb la lb]; have := h1.1 k; have := h2.1 k; omega, by rw [meet_sum ha hb la lb hs]; exact h1.2⟩
/-- the least that is above both -/
def joinOf (a b : List Int) : List Int := turnOf (meetOf (turnOf a) (turnOf b))
theorem join_pt (a b : List Int) : Pt (joinOf a b) := turn_pt _
theorem turn_len {a : List Int} (h : Pt a) (h12 : a.sum ≤ 12) : (turnOf a).length ≤ 12 := by
  have := pt_len (turn_pt a).pos
  rw [turn_sum h.desc h.nn] at this
  omega
theorem join_sum {a b : List Int} (ha : Pt a) (hb : Pt b) (h12 : a.sum ≤ 12) (hs : a.sum = b.sum) : (joinOf a b).sum = a.sum := by
  have hm := meet_pt (turn_pt a) (turn_pt b)
  unfold joinOf
  rw [turn_sum hm.desc hm.nn, meet_sum (turn_pt a) (turn_pt b) (turn_len ha h12) (turn_len hb (by omega)), turn_sum ha.desc ha.nn]
  rw [turn_sum ha.desc ha.nn, turn_sum hb.desc hb.nn, hs]
theorem join_comm (a b : List Int) : joinOf a b = joinOf b a := by unfold joinOf; rw [meet_comm]
theorem join_above {a b : List Int} (ha : Pt a) (hb : Pt b) (h12 : a.sum ≤ 12) (hs : a.sum = b.sum) : Maj (joinOf a b) a := by
  have hm := meet_pt (turn_pt a) (turn_pt b)
  have e := turn_maj (turn_pt (meetOf (turnOf a) (turnOf b))) ha (join_sum ha hb h12 hs)
  unfold joinOf
  rw [← e, turn_turn hm]
  exact meet_below (turn_pt a) (turn_pt b) (turn_len ha h12) (turn_len hb (by omega)) (by rw [turn_sum ha.desc ha.nn, turn_sum hb.desc hb.nn, hs])
theorem join_least {a b c : List Int} (ha : Pt a) (hb : Pt b) (hc : Pt c) (h12 : a.sum ≤ 12) (h1 : Maj c a) (h2 : Maj c b) : Maj c (joinOf a b) := by
  have hs : a.sum = b.sum := h1.2.symm.trans h2.2
  have hm := meet_pt (turn_pt a) (turn_pt b)
  have e := turn_maj hc (turn_pt (meetOf (turnOf a) (turnOf b))) (h1.2.trans (join_sum ha hb h12 hs).symm)
  unfold joinOf
  rw [← e, turn_turn hm]
  refine meet_great (turn_pt a) (turn_pt b) (turn_pt c) (turn_len ha h12) (turn_len hb (by omega)) ?_ ?_
  · exact (turn_maj hc ha h1.2).mpr h1
  · exact (turn_maj hc hb h2.2).mpr h2
theorem maj_antisymm {a b : List Int} (ha : Pt a) (hb : Pt b) (h1 : Maj a b) (h2 : Maj b a) : a = b := by
  rw [Maj_desc ha.desc hb.desc] at h1
  rw [Maj_desc hb.desc ha.desc] at h2
  exact pt_ext ha hb fun k => Int.le_antisymm (h2.1 k) (h1.1 k)
end Go.Proofs.Ytefmafbbnkkpjaa.Pure
