/- Split: permutations are taken off until nothing is left. -/
import Derived.Test.YtefmafbbnkkpjaaSV
import Derived.Test.YtefmafbbnkkpjaaE45
namespace Go.Proofs.Ytefmafbbnkkpjaa.Pure
open Go Go.RowKit Go.Proofs.Ytefmafbbnkkpjaa.X Go.Proofs.YtefmafbbnkkpjaaW.PrintWords Go.Proofs.YtefmafbbnkkpjaaW.PrintLast Go.Proofs.YtefmafbbnkkpjaaW.PrintMore
set_option linter.unusedVariables false
set_option linter.unusedSimpArgs false

/-- a sum over the numbers below n -/
def rs (n : Nat) (f : Nat → Int) : Int := ((List.range n).map f).sum
theorem rs_succ (n : Nat) (f : Nat → Int) : rs (n + 1) f = rs n f + f n := by
  unfold rs
  rw [List.range_succ, List.map_append, List.sum_append]
  simp
theorem rs_congr {n : Nat} {f g : Nat → Int} (h : ∀ i, i < n → f i = g i) : rs n f = rs n g := by
  unfold rs
  rw [List.map_congr_left fun i hi => h i (List.mem_range.mp hi)]
theorem rs_add (f g : Nat → Int) : ∀ n, rs n (fun i => f i + g i) = rs n f + rs n g
  | 0 => rfl
  | n + 1 => by rw [rs_succ, rs_succ, rs_succ, rs_add f g n]; omega
theorem rs_single {c : Nat} {m : Int} : ∀ n, rs n (fun i => if i = c then m else 0) = if c < n then m else 0
  | 0 => rfl
  | n + 1 => by
    rw [rs_succ, rs_single n]
    by_cases h : c < n
    · rw [if_pos h, if_neg (by omega), if_pos (by omega)]; omega
    · rw [if_neg h]
      by_cases h2 : n = c
      · rw [if_pos h2, if_pos (by omega)]; omega
      · rw [if_neg h2, if_neg (by omega)]; rfl
theorem rs_nonneg {f : Nat → Int} : ∀ n, (∀ i, i < n → 0 ≤ f i) → 0 ≤ rs n f
  | 0, _ => Int.le_refl _
  | n + 1, h => by
    rw [rs_succ]
    have := rs_nonneg n fun i hi => h i (by omega)
    have := h n (by omega)
    omega
theorem rs_ge {f : Nat → Int} : ∀ n, (∀ i, i < n → 0 ≤ f i) → ∀ i, i < n → f i ≤ rs n f
  | 0, _, i, hi => by omega
  | n + 1, h, i, hi => by
    rw [rs_succ]
    by_cases e : i = n
    · subst e
      have := rs_nonneg (f := f) i fun j hj => h j (by omega)
      omega
    · have := rs_ge n (fun j hj => h j (by omega)) i (by omega)
      have := h n (by omega)
      omega
theorem rs_list (r : List Int) : r.sum = rs r.length (fun (j : Nat) => rd r (j : Int)) := by
  unfold rs
  congr 1
  apply List.ext_getElem
  · simp
  · intro i h1 h2
    simp [rd, List.getD_eq_getElem?_getD, List.getElem?_eq_getElem h1]
theorem rs_rows (l : List (List Int)) (g : List Int → Int) : (l.map g).sum = rs l.length (fun (i : Nat) => g (rd_L1 l (i : Int))) := by
  unfold rs
  congr 1
  apply List.ext_getElem
  · simp
  · intro i h1 h2
    have : i < l.length := by simpa using h1
    simp [rd_L1, List.getD_eq_getElem?_getD, List.getElem?_eq_getElem this]
/-- a permutation comes by each number once -/
theorem rs_perm {n : Nat} {p : List Int} (hp : PermOf n p) {c : Nat} (hc : c < n) (m : Int) : rs n (fun (i : Nat) => if rd p (i : Int) = (c : Int) then m else 0) = m := by
  have e1 : rs n (fun (i : Nat) => if rd p (i : Int) = (c : Int) then m else 0) = (p.map fun x => if x = (c : Int) then m else 0).sum := by
    unfold rs
    congr 1
    apply List.ext_getElem
    · simp [hp.len]
    · intro i h1 h2
      have : i < p.length := by simpa using h2
      simp [rd, List.getD_eq_getElem?_getD, List.getElem?_eq_getElem this]
  rw [e1, Hall.perm_sum (hp.perm.map _)]
  have e2 : ((ints n).map fun x => if x = (c : Int) then m else 0).sum = rs n (fun i => if i = c then m else 0) := by
    unfold rs ints
    rw [List.map_map]
    congr 1
    apply List.map_congr_left
    intro i _
    simp only [Function.comp]
    by_cases h : i = c
    · rw [if_pos h, if_pos (by omega)]
    · rw [if_neg h, if_neg (by omega)]
  rw [e2, rs_single, if_pos hc]
def ei (l : List (List Int)) (i j : Nat) : Int := rd (rd_L1 l (i : Int)) (j : Int)
/-- what permutations with weights make together -/
def con (i j : Nat) (all : List (List Int)) (xs : List Int) : Int := ((all.zip xs).map fun q => if rd q.1 (i : Int) = (j : Int) then q.2 else 0).sum
theorem con_snoc {i j : Nat} {all : List (List Int)} {xs : List Int} (h : all.length = xs.length) (p : List Int) (x : Int) : con i j (all ++ [p]) (xs ++ [x]) = con i j all xs + if rd p (i : Int) = (j : Int) then x else 0 := by
  unfold con
  rw [List.zip_append h, List.map_append, List.sum_append]
  simp
theorem con_scale (i j : Nat) (c : Int) : ∀ (all : List (List Int)) (xs : List Int), con i j all (xs.map fun x => x * c) = con i j all xs * c
  | [], _ => by simp [con]
  | _ :: _, [] => by simp [con]
  | p :: all, x :: xs => by
    have ih := con_scale i j c all xs
    unfold con at *
    simp only [List.map_cons, List.zip_cons_cons, List.sum_cons, ih]
    rw [Int.add_mul]
    split <;> simp
theorem sum_scale (c : Int) : ∀ xs : List Int, (xs.map fun x => x * c).sum = xs.sum * c
  | [] => by simp
  | x :: xs => by rw [List.map_cons, List.sum_cons, List.sum_cons, sum_scale c xs, Int.add_mul]
theorem countP_lt {P Q : Nat → Bool} (h : ∀ t, P t = true → Q t = true) {t0 : Nat} (hq : Q t0 = true) (hp : P t0 = false) : ∀ l : List Nat, t0 ∈ l → l.countP P < l.countP Q
  | [], hm => by cases hm
  | a :: l, hm => by
    rw [List.countP_cons, List.countP_cons]
    have hle : l.countP P ≤ l.countP Q := List.countP_mono_left fun t _ => h t
    rcases List.mem_cons.mp hm with e | hm
    · subst e
      rw [hq, hp]
      simp
      omega
    · have := countP_lt h hq hp l hm
      cases hpa : P a with
      | true => rw [h a hpa]; simp; omega
      | false => cases Q a <;> simp <;> omega
/-- how many numbers are above 0 -/
def npos (n : Nat) (l : List (List Int)) : Nat := (List.range (n * n)).countP fun t => decide (0 < ei l (t / n) (t % n))

theorem leastL_spec (l : List (List Int)) : ∀ (ps : List Int) (i : Nat) (m : Int), leastL l ps (i : Int) m ≤ m ∧ (∀ q, q < ps.length → leastL l ps (i : Int) m ≤ rd (rd_L1 l ((i + q : Nat) : Int)) (rd ps (q : Int))) ∧ (leastL l ps (i : Int) m = m ∨ ∃ q, q < ps.length ∧ leastL l ps (i : Int) m = rd (rd_L1 l ((i + q : Nat) : Int)) (rd ps (q : Int)))
  | [], i, m => ⟨Int.le_refl _, fun q hq => absurd hq (Nat.not_lt_zero _), .inl rfl⟩
  | j :: js, i, m => by
    obtain ⟨a1, a2, a3⟩ := leastL_spec l js (i + 1) (if rd (rd_L1 l (i : Int)) j < m then rd (rd_L1 l (i : Int)) j else m)
    rw [show ((i + 1 : Nat) : Int) = (i : Int) + 1 by omega] at a1 a2 a3
    rw [leastL]
    have e0 : rd (j :: js) ((0 : Nat) : Int) = j := rfl
    have es : ∀ q : Nat, rd (j :: js) ((q + 1 : Nat) : Int) = rd js (q : Int) := fun q => by rw [rd_at, rd_at]; rfl
    have hm : (if rd (rd_L1 l (i : Int)) j < m then rd (rd_L1 l (i : Int)) j else m) ≤ m ∧ (if rd (rd_L1 l (i : Int)) j < m then rd (rd_L1 l (i : Int)) j else m) ≤ rd (rd_L1 l (i : Int)) j := by split <;> omega
    refine ⟨by omega, fun q hq => ?_, ?_⟩
    · cases q with
      | zero => rw [e0, Nat.add_zero]; omega
      | succ q =>
        have := a2 q (by simpa using hq)
        rw [es, show i + (q + 1) = i + 1 + q by omega]
        exact this
    · rcases a3 with h | ⟨q, hq, h⟩
      · rw [h]
        split
        · exact .inr ⟨0, by simp, by rw [e0, Nat.add_zero]⟩
        · exact .inl rfl
      · exact .inr ⟨q + 1, by simpa using hq, by rw [es, show i + (q + 1) = i + 1 + q by omega]; exact h⟩
theorem rdL_set {l : List (List Int)} {i : Nat} (hi : i < l.length) (r : List Int) (q : Nat) : rd_L1 (l.set i r) (q : Int) = if q = i then r else rd_L1 l (q : Int) := by
  unfold rd_L1
  rw [Int.toNat_natCast, List.getD_eq_getElem?_getD, List.getD_eq_getElem?_getD, List.getElem?_set]
  by_cases e : i = q
  · subst e; rw [if_pos rfl, if_pos hi, if_pos rfl]; rfl
  · rw [if_neg e, if_neg (by omega)]
theorem subL_spec (m : Int) : ∀ (ps : List Int) (i : Nat) (l : List (List Int)), i + ps.length ≤ l.length →
    (subL m l ps (i : Int)).length = l.length ∧ ∀ q : Nat, rd_L1 (subL m l ps (i : Int)) (q : Int) = if i ≤ q ∧ q < i + ps.length then (rd_L1 l (q : Int)).set (rd ps ((q - i : Nat) : Int)).toNat (wrap64 (rd (rd_L1 l (q : Int)) (rd ps ((q - i : Nat) : Int)) - m)) else rd_L1 l (q : Int)
  | [], i, l, _ => ⟨rfl, fun q => by rw [if_neg (by rw [List.length_nil]; omega)]; rfl⟩
  | j :: js, i, l, h => by
    rw [subL]
    rw [List.length_cons] at h
    rw [Int.toNat_natCast]
    obtain ⟨a1, a2⟩ := subL_spec m js (i + 1) (l.set i ((rd_L1 l (i : Int)).set j.toNat (wrap64 (rd (rd_L1 l (i : Int)) j - m)))) (by rw [List.length_set]; omega)
    rw [show ((i + 1 : Nat) : Int) = (i : Int) + 1 by omega] at a1 a2
    refine ⟨by rw [a1, List.length_set], fun q => ?_⟩
    rw [a2 q, rdL_set (by omega)]
    by_cases e : q = i
    · subst e
      rw [if_neg (by omega), if_pos rfl, if_pos (by simp), Nat.sub_self]
      rfl
    · rw [if_neg e]
      by_cases h2 : i + 1 ≤ q ∧ q < i + 1 + js.length
      · have es : rd (j :: js) ((q - i : Nat) : Int) = rd js ((q - (i + 1) : Nat) : Int) := by
          rw [rd_at, rd_at, show q - i = (q - (i + 1)) + 1 by omega]; rfl
        rw [if_pos h2, if_pos (by rw [List.length_cons]; omega), es]
      · rw [if_neg h2, if_neg (by rw [List.length_cons]; omega)]
/-- a weight of D-ths -/
def fr (D x : Int) : S62 := ⟨x / (Int.gcd x D : Int), D / (Int.gcd x D : Int)⟩
theorem fr_f {k : Nat} (hk : KG ≤ k) {x D : Int} (h1 : 1 ≤ x) (h2 : x ≤ D) (hD : D ≤ 1000000000000) : shares_frac.f k x D = some ((fr D x).f0, (fr D x).f1) := by
  have hg : (0 : Int) < Int.gcd x D := by
    have := Int.gcd_pos_of_ne_zero_left D (show x ≠ 0 by omega)
    omega
  have e1 : Int.tdiv x (Int.gcd x D) = x / Int.gcd x D := Int.tdiv_eq_ediv_of_dvd (Int.gcd_dvd_left ..)
  have e2 : Int.tdiv D (Int.gcd x D) = D / Int.gcd x D := Int.tdiv_eq_ediv_of_dvd (Int.gcd_dvd_right ..)
  have b1 : 0 ≤ x / (Int.gcd x D : Int) := Int.ediv_nonneg (by omega) (by omega)
  have b2 : x / (Int.gcd x D : Int) ≤ x := Int.ediv_le_self _ (by omega)
  have b3 : 0 ≤ D / (Int.gcd x D : Int) := Int.ediv_nonneg (by omega) (by omega)
  have b4 : D / (Int.gcd x D : Int) ≤ D := Int.ediv_le_self _ (by omega)
  unfold shares_frac.f
  rw [gcd_f hk (by omega) (by omega) (by omega) (by omega), Option.bind_some, if_neg (by omega), e1, e2, w6 (by omega) (by omega), w6 (by omega) (by omega)]
  rfl
structure St (n : Nat) (L0 : Nat → Nat → Int) (D : Int) (l : List (List Int)) (left : Int) (all : List (List Int)) (xs : List Int) : Prop where
  len : l.length = n
  sq : ∀ r ∈ l, r.length = n
  nn : ∀ i, i < n → ∀ j, j < n → 0 ≤ ei l i j
  row : ∀ i, i < n → rs n (ei l i) = left
  col : ∀ j, j < n → rs n (fun i => ei l i j) = left
  l0 : 0 ≤ left
  lD : left ≤ D
  al : all.length = xs.length
  perm : ∀ p ∈ all, PermOf n p
  up : ∀ p ∈ all, ∀ i : Nat, i < n → 0 < L0 i (rd p (i : Int)).toNat
  xs1 : ∀ x ∈ xs, 1 ≤ x ∧ x ≤ D
  sum : xs.sum + left = D
  cnt : ∀ i, i < n → ∀ j, j < n → L0 i j = ei l i j + con i j all xs
  pos : npos n l + all.length ≤ n * n
theorem ei_mem {l : List (List Int)} {n : Nat} (hl : l.length = n) (hsq : ∀ r ∈ l, r.length = n) (h : ∀ i, i < n → ∀ j, j < n → 0 ≤ ei l i j) : ∀ r ∈ l, ∀ x ∈ r, 0 ≤ x := by
  intro r hr x hx
  obtain ⟨i, hi, rfl⟩ := List.getElem_of_mem hr
  obtain ⟨j, hj, rfl⟩ := List.getElem_of_mem hx
  have hl2 := hsq _ hr
  have := h i (by omega) j (by omega)
  simpa [ei, rd_L1, rd, List.getD_eq_getElem?_getD, List.getElem?_eq_getElem hi, List.getElem?_eq_getElem hj] using this
theorem con_nonneg {i j : Nat} : ∀ (all : List (List Int)) (xs : List Int), (∀ x ∈ xs, 1 ≤ x) → 0 ≤ con i j all xs
  | [], _, _ => by simp [con]
  | _ :: _, [], _ => by simp [con]
  | p :: all, x :: xs, h => by
    have ih := con_nonneg (i := i) (j := j) all xs fun y hy => h y (List.mem_cons_of_mem _ hy)
    have := h x List.mem_cons_self
    unfold con at *
    simp only [List.zip_cons_cons, List.map_cons, List.sum_cons]
    split <;> omega
/-- one step -/
theorem st_step {n : Nat} (hn1 : 1 ≤ n) (hn : n ≤ 5) {L0 : Nat → Nat → Int} {D : Int} (hD : D ≤ 10000) {l : List (List Int)} {left : Int} {all : List (List Int)} {xs : List Int} (h : St n L0 D l left all xs) (hl : 0 < left) :
    ∃ p, growF l l.length [] 0 = some p ∧ okP l p = true ∧ 1 ≤ leastL l p 0 left ∧ leastL l p 0 left ≤ left ∧ St n L0 D (subL (leastL l p 0 left) l p 0) (left - leastL l p 0 left) (all ++ [p]) (xs ++ [leastL l p 0 left]) ∧ npos n (subL (leastL l p 0 left) l p 0) < npos n l := by
  obtain ⟨p, e, hp, hup⟩ := match_some l h.len hn h.sq hl (ei_mem h.len h.sq h.nn) (fun r hr => by
    obtain ⟨i, hi, rfl⟩ := List.getElem_of_mem hr
    have hrl := h.sq _ hr
    rw [rs_list, hrl]
    have := h.row i (by have := h.len; omega)
    rw [← this]
    refine rs_congr fun j hj => ?_
    simp [ei, rd_L1, List.getD_eq_getElem?_getD, List.getElem?_eq_getElem hi]) (fun c hc => by
    rw [rs_rows, h.len]
    have := h.col c hc
    rw [← this]
    refine rs_congr fun i hi => ?_
    rw [ei, rd_at])
  refine ⟨p, by rw [h.len]; exact e, ?_, ?_⟩
  · unfold okP
    simp only [Bool.and_eq_true, decide_eq_true_eq, List.all_eq_true, List.mem_range]
    refine ⟨by rw [hp.len, h.len], fun i hi => ?_⟩
    have := hp.rng _ (List.mem_of_mem_drop (rdI_drop hi ▸ List.mem_cons_self))
    rw [h.sq _ (rdL_mem (by rw [h.len]; have := hp.len; omega))]
    exact this
  · obtain ⟨a1, a2, a3⟩ := leastL_spec l p 0 left
    obtain ⟨b1, b2⟩ := subL_spec (leastL l p ((0 : Nat) : Int) left) p 0 l (by rw [hp.len, h.len]; omega)
    rw [show ((0 : Nat) : Int) = 0 from rfl] at a1 a2 a3 b1 b2
    have hpr : ∀ i : Nat, i < n → 0 ≤ rd p (i : Int) ∧ rd p (i : Int) < (n : Int) := fun i hi => hp.rng _ (List.mem_of_mem_drop (rdI_drop (by rw [hp.len]; exact hi) ▸ List.mem_cons_self))
    have hle : ∀ i : Nat, i < n → ei l i (rd p (i : Int)).toNat ≤ left := fun i hi => by
      rw [← h.row i hi]
      exact rs_ge n (fun j hj => h.nn i hi j hj) _ (by have := hpr i hi; omega)
    have ha2 : ∀ i : Nat, i < n → leastL l p 0 left ≤ ei l i (rd p (i : Int)).toNat := fun i hi => by
      have := a2 i (by rw [hp.len]; exact hi)
      rw [Nat.zero_add] at this
      rw [ei, Int.toNat_of_nonneg (hpr i hi).1]
      exact this
    have hup2 : ∀ i : Nat, i < n → 0 < ei l i (rd p (i : Int)).toNat := fun i hi => by
      have := hup i hi
      rw [ei, Int.toNat_of_nonneg (hpr i hi).1]
      exact this
    have hex : ∃ i : Nat, i < n ∧ ei l i (rd p (i : Int)).toNat = leastL l p 0 left := by
      rcases a3 with h3 | ⟨q, hq, h3⟩
      · refine ⟨0, by omega, ?_⟩
        have := hle 0 (by omega)
        have := ha2 0 (by omega)
        omega
      · rw [hp.len] at hq
        refine ⟨q, hq, ?_⟩
        rw [Nat.zero_add] at h3
        rw [ei, Int.toNat_of_nonneg (hpr q hq).1]
        exact h3.symm
    have hm1 : 1 ≤ leastL l p 0 left := by
      obtain ⟨i, hi, e2⟩ := hex
      have := hup2 i hi
      omega
    generalize leastL l p 0 left = m at *
    have hei : ∀ i : Nat, i < n → ∀ j : Nat, j < n → ei (subL m l p 0) i j = ei l i j - if rd p (i : Int) = (j : Int) then m else 0 := by
      intro i hi j hj
      rw [ei, b2 i, if_pos (by rw [hp.len]; omega), Nat.sub_zero]
      have hrl := h.sq _ (rdL_mem (l := l) (i := i) (by rw [h.len]; exact hi))
      have hbd := hle i hi
      have hge := ha2 i hi
      have hp0 := hpr i hi
      have hx : rd (rd_L1 l (i : Int)) (rd p (i : Int)) = ei l i (rd p (i : Int)).toNat := by rw [ei, Int.toNat_of_nonneg hp0.1]
      rw [hx, rd_at, set_getD _ _ _ _ (by omega), w6 (by have := h.lD; omega) (by have := h.lD; omega)]
      by_cases e2 : j = (rd p (i : Int)).toNat
      · rw [if_pos e2, if_pos (by omega), ← e2]
      · rw [if_neg e2, if_neg (by omega), ei, rd_at]; omega
    have hpos : npos n (subL m l p 0) < npos n l := by
      obtain ⟨i, hi, e2⟩ := hex
      have hj := hpr i hi
      have hjn : (rd p (i : Int)).toNat < n := by omega
      have hdiv : (i * n + (rd p (i : Int)).toNat) / n = i := by
        rw [Nat.mul_comm, Nat.mul_add_div (by omega), Nat.div_eq_of_lt hjn, Nat.add_zero]
      have hmod : (i * n + (rd p (i : Int)).toNat) % n = (rd p (i : Int)).toNat := by
        rw [Nat.mul_comm, Nat.mul_add_mod, Nat.mod_eq_of_lt hjn]
      have hlt : i * n + (rd p (i : Int)).toNat < n * n := by
        have : (i + 1) * n ≤ n * n := Nat.mul_le_mul_right _ hi
        rw [Nat.succ_mul] at this
        omega
      refine countP_lt (t0 := i * n + (rd p (i : Int)).toNat) (fun t ht => ?_) ?_ ?_ _ (List.mem_range.mpr hlt)
      · have ht := of_decide_eq_true ht
        refine decide_eq_true ?_
        by_cases hti : t / n < n
        · rw [hei _ hti _ (Nat.mod_lt _ (by omega))] at ht
          split at ht <;> omega
        · have e3 : ei (subL m l p 0) (t / n) (t % n) = 0 := by
            rw [ei, rd_L1, Int.toNat_natCast, List.getD_eq_getElem?_getD, List.getElem?_eq_none (by rw [b1, h.len]; omega)]
            rfl
          omega
      · rw [hdiv, hmod]; exact decide_eq_true (hup2 i hi)
      · rw [hdiv, hmod, hei i hi _ hjn, if_pos (by omega), e2]
        exact decide_eq_false (by omega)
    refine ⟨hm1, a1, ?_, hpos⟩
    refine ⟨by rw [b1, h.len], fun r hr => ?_, fun i hi j hj => ?_, fun i hi => ?_, fun j hj => ?_, by omega, by have := h.lD; omega, by simp [h.al], fun q hq => ?_, fun q hq i hi => ?_, fun x hx => ?_, ?_, fun i hi j hj => ?_, by rw [List.length_append, List.length_singleton]; have := h.pos; omega⟩
    · obtain ⟨i, hi, rfl⟩ := List.getElem_of_mem hr
      have hin : i < n := by rw [b1, h.len] at hi; exact hi
      have e3 : (subL m l p 0)[i] = rd_L1 (subL m l p 0) (i : Int) := by simp [rd_L1, List.getD_eq_getElem?_getD, List.getElem?_eq_getElem hi]
      rw [e3, b2 i, if_pos (by rw [hp.len]; omega), List.length_set]
      exact h.sq _ (rdL_mem (by rw [h.len]; exact hin))
    · rw [hei i hi j hj]
      by_cases e2 : rd p (i : Int) = (j : Int)
      · rw [if_pos e2]
        have := ha2 i hi
        rw [e2, Int.toNat_natCast] at this
        omega
      · rw [if_neg e2]; have := h.nn i hi j hj; omega
    · have e3 : rs n (ei l i) = rs n (ei (subL m l p 0) i) + rs n (fun j => if j = (rd p (i : Int)).toNat then m else 0) := by
        rw [← rs_add]
        refine rs_congr fun j hj => ?_
        rw [hei i hi j hj]
        have := hpr i hi
        by_cases e2 : j = (rd p (i : Int)).toNat
        · rw [if_pos (by omega), if_pos e2]; omega
        · rw [if_neg (by omega), if_neg e2]; omega
      rw [h.row i hi, rs_single, if_pos (by have := hpr i hi; omega)] at e3
      omega
    · have e3 : rs n (fun i => ei l i j) = rs n (fun i => ei (subL m l p 0) i j) + rs n (fun (i : Nat) => if rd p (i : Int) = (j : Int) then m else 0) := by
        rw [← rs_add]
        refine rs_congr fun i hi => ?_
        rw [hei i hi j hj]; omega
      rw [h.col j hj, rs_perm hp hj] at e3
      omega
    · rcases List.mem_append.mp hq with hq | hq
      · exact h.perm q hq
      · rw [List.mem_singleton.mp hq]; exact hp
    · rcases List.mem_append.mp hq with hq | hq
      · exact h.up q hq i hi
      · rw [List.mem_singleton.mp hq, h.cnt i hi _ (by have := hpr i hi; omega)]
        have := hup2 i hi
        have := con_nonneg (i := i) (j := (rd p (i : Int)).toNat) all xs fun x hx => (h.xs1 x hx).1
        omega
    · rcases List.mem_append.mp hx with hx | hx
      · exact h.xs1 x hx
      · rw [List.mem_singleton.mp hx]; have := h.lD; omega
    · rw [List.sum_append]
      have := h.sum
      simp
      omega
    · rw [con_snoc h.al, hei i hi j hj, h.cnt i hi j hj]; omega
end Go.Proofs.Ytefmafbbnkkpjaa.Pure
