/- Split and CheckSplit of the program. -/
import Derived.Test.YtefmafbbnkkpjaaSW
import Derived.Test.YtefmafbbnkkpjaaE47
namespace Go.Proofs.Ytefmafbbnkkpjaa.Pure
open Go Go.RowKit Go.Proofs.Ytefmafbbnkkpjaa.X Go.Proofs.YtefmafbbnkkpjaaW.PrintWords Go.Proofs.YtefmafbbnkkpjaaW.PrintLast Go.Proofs.YtefmafbbnkkpjaaW.PrintMore
set_option linter.unusedVariables false
set_option linter.unusedSimpArgs false

theorem okL_of {l : List (List Int)} {n : Nat} (h1 : 1 ≤ n) (h5 : n ≤ 5) (hl : l.length = n) (hs : ∀ r ∈ l, r.length = n) : okL l = true := by
  unfold okL
  simp only [Bool.and_eq_true, decide_eq_true_eq, List.all_eq_true]
  exact ⟨by omega, by omega, fun r hr => by rw [hs r hr]; exact h5⟩
theorem sq_le {n : Nat} (h : n ≤ 5) : n * n ≤ 25 := Nat.mul_le_mul h h
theorem split_run {n : Nat} (hn1 : 1 ≤ n) (hn : n ≤ 5) {L0 : Nat → Nat → Int} {D : Int} (hD : D ≤ 10000) {k : Nat} (hk : KG ≤ k) : ∀ (f : Nat) (l : List (List Int)) (left : Int) (all : List (List Int)) (xs : List Int), St n L0 D l left all xs → npos n l < f →
    ∃ l' all' xs', splitF k D f l left all (xs.map (fr D)) = some (all', xs'.map (fr D)) ∧ St n L0 D l' 0 all' xs' := by
  intro f
  induction f with
  | zero => intro l left all xs h hf; omega
  | succ f ih =>
    intro l left all xs h hf
    rw [splitF]
    by_cases hl : 0 < left
    · obtain ⟨p, e1, e2, e3, e4, h2, h3⟩ := st_step hn1 hn hD h hl
      have hpos := h.pos
      have h25 := sq_le hn
      rw [if_pos hl, if_pos ⟨okL_of hn1 hn h.len h.sq, by omega, by rw [List.length_map, ← h.al]; omega⟩, e1]
      dsimp only
      rw [if_pos e2, fr_f hk e3 (by have := h.lD; omega) (by omega)]
      dsimp only
      rw [w6 (by have := h.lD; omega) (by have := h.lD; omega)]
      obtain ⟨l', all', xs', e5, h5⟩ := ih _ _ _ _ h2 (by omega)
      refine ⟨l', all', xs', ?_, h5⟩
      rw [← e5, List.map_append]
      rfl
    · rw [if_neg hl]
      have : left = 0 := by have := h.l0; omega
      subst this
      exact ⟨l, all, xs, rfl, h⟩
theorem ei_rowV {D : Int} {m : List (List S62)} {i j : Nat} (hi : i < m.length) (hj : j < (rd_L5 m (i : Int)).length) : ei (m.map (rowV D)) i j = val D (el m i j) := by
  unfold ei el
  have e : rd_L1 (m.map (rowV D)) (i : Int) = rowV D (rd_L5 m (i : Int)) := by
    simp [rd_L1, rd_L5, List.getD_eq_getElem?_getD, List.getElem?_eq_getElem hi]
  rw [e, rd_at, getD_get (by simpa [rowV] using hj), rowV_at hj]
/-- the numbers of a mixture -/
def mxv (D : Int) (m : List (List S62)) (i j : Nat) : Int := val D (el m i j)
theorem st_init {n : Nat} {m : List (List S62)} {D : Int} (h : Mx 10000 n m D) : St n (mxv D m) D (m.map (rowV D)) D [] [] := by
  obtain ⟨d1, d2, hT⟩ := mul_Th (by decide) h.mul h.ne
  have hin : ∀ i, i < n → i < m.length := fun i hi => by rw [h.len]; exact hi
  have hrl : ∀ i, i < n → (rd_L5 m (i : Int)).length = n := fun i hi => h.sq _ (rdM_mem (hin i hi))
  have hei : ∀ i, i < n → ∀ j, j < n → ei (m.map (rowV D)) i j = mxv D m i j := fun i hi j hj => ei_rowV (hin i hi) (by rw [hrl i hi]; exact hj)
  have hth : ∀ i, i < n → ∀ j, j < n → Th D (el m i j) := fun i hi j hj => (hT _ (rdM_mem (hin i hi)) _ (rd_mem (by rw [hrl i hi]; exact hj))).2
  refine ⟨by simp [h.len], fun r hr => ?_, fun i hi j hj => ?_, fun i hi => ?_, fun j hj => ?_, by omega, Int.le_refl _, rfl, by simp, by simp, by simp, by simp, fun i hi j hj => by rw [hei i hi j hj]; simp [con], ?_⟩
  · obtain ⟨s, hs, rfl⟩ := List.mem_map.mp hr
    simp [rowV, h.sq s hs]
  · rw [hei i hi j hj]; exact ((hth i hi j hj).bd (by omega)).1
  · have := h.rows _ (rdM_mem (hin i hi))
    rw [rs_list, show (rowV D (rd_L5 m (i : Int))).length = n by simp [rowV, hrl i hi]] at this
    refine Eq.trans (rs_congr fun j hj => ?_) this
    rw [hei i hi j hj, rd_at, getD_get (by simp [rowV, hrl i hi]; exact hj), rowV_at (by rw [hrl i hi]; exact hj)]
    rfl
  · have := h.cols j hj
    refine Eq.trans ?_ this
    unfold colV rs
    congr 1
    apply List.ext_getElem
    · simp [h.len]
    · intro i h1 h2
      have hi : i < n := by simpa using h1
      simp only [List.getElem_map, List.getElem_range]
      rw [hei i hi j hj]
      simp [mxv, el, rd_L5, List.getD_eq_getElem?_getD, List.getElem?_eq_getElem (hin i hi)]
  · simp only [List.length_nil, Nat.add_zero]
    unfold npos
    have := List.countP_le_length (p := fun t => decide (0 < ei (m.map (rowV D)) (t / n) (t % n))) (l := List.range (n * n))
    simpa using this
/-- the program's Split -/
theorem Split_f (m : List (List S62)) (hl : m.length ≤ 9) (hr : ∀ r ∈ m, r.length ≤ 9) (hb : ∀ r ∈ m, ∀ f ∈ r, B64 f) (k : Nat) (hk : 2200000 + KG ≤ k) :
    (1 ≤ m.length ∧ m.length ≤ 5 ∧ ∃ D l' all xs, Mx 10000 m.length m D ∧ xSplit.f k m = some (all, xs.map (fr D), 0) ∧ St m.length (mxv D m) D l' 0 all xs) ∨ (¬ (1 ≤ m.length ∧ m.length ≤ 5 ∧ ∃ D, Mx 10000 m.length m D) ∧ xSplit.f k m = some ([], [], 2)) := by
  obtain ⟨L, d, ok, e, h⟩ := read_f m hl hr hb k hk
  unfold xSplit.f
  rw [e]
  dsimp only
  rcases h with ⟨rfl, h1, h5, hM, rfl⟩ | ⟨rfl, hn⟩
  · obtain ⟨d1, d2, hT⟩ := mul_Th (by decide) hM.mul hM.ne
    have hs := st_init hM
    have h25 := sq_le h5
    obtain ⟨l', all, xs, e2, h2⟩ := split_run h1 h5 d2 (show KG ≤ k by omega) k _ _ _ _ hs (by have := hs.pos; omega)
    refine .inl ⟨h1, h5, d, l', all, xs, hM, ?_, h2⟩
    rw [if_pos rfl, if_pos (okL_of h1 h5 hs.len hs.sq)]
    have e3 : splitF k d k (m.map (rowV d)) d [] [] = some (all, xs.map (fr d)) := e2
    rw [e3]
  · exact .inr ⟨hn, by rw [if_neg (by decide)]⟩
/-- what permutations and weights are a split of a mixture -/
structure SplitOf (n : Nat) (L0 : Nat → Nat → Int) (D : Int) (p : List (List Int)) (ws : List S62) : Prop where
  len : p.length = ws.length
  h100 : p.length ≤ 100
  ne : mulP 10000000 true ws 1 ≠ 0
  perm : ∀ q ∈ p, PermOf n q
  pos : ∀ f ∈ ws, f.f0 ≠ 0
  sum : (rowV (mulP 10000000 true ws 1) ws).sum = mulP 10000000 true ws 1
  cnt : ∀ i, i < n → ∀ j, j < n → con i j p (rowV (mulP 10000000 true ws 1) ws) * D = L0 i j * mulP 10000000 true ws 1
theorem addL_spec (x : Int) : ∀ (ps : List Int) (i : Nat) (l : List (List Int)), i + ps.length ≤ l.length →
    (addL x l ps (i : Int)).length = l.length ∧ ∀ q : Nat, rd_L1 (addL x l ps (i : Int)) (q : Int) = if i ≤ q ∧ q < i + ps.length then (rd_L1 l (q : Int)).set (rd ps ((q - i : Nat) : Int)).toNat (wrap64 (rd (rd_L1 l (q : Int)) (rd ps ((q - i : Nat) : Int)) + x)) else rd_L1 l (q : Int)
  | [], i, l, _ => ⟨rfl, fun q => by rw [if_neg (by rw [List.length_nil]; omega)]; rfl⟩
  | j :: js, i, l, h => by
    rw [addL]
    rw [List.length_cons] at h
    rw [Int.toNat_natCast]
    obtain ⟨a1, a2⟩ := addL_spec x js (i + 1) (l.set i ((rd_L1 l (i : Int)).set j.toNat (wrap64 (rd (rd_L1 l (i : Int)) j + x)))) (by rw [List.length_set]; omega)
    rw [show ((i + 1 : Nat) : Int) = (i : Int) + 1 by omega] at a1 a2
    refine ⟨by rw [a1, List.length_set], fun q => ?_⟩
    rw [a2 q, rdL_set (by omega)]
    by_cases e : q = i
    · subst e
      rw [if_neg (by omega), if_pos rfl, if_pos (by simp), Nat.sub_self]
      rfl
    · rw [if_neg e]
      by_cases h2 : i + 1 ≤ q ∧ q < i + 1 + js.length
      · have es : rd (j :: js) ((q - i : Nat) : Int) = rd js ((q - (i + 1) : Nat) : Int) := by
          rw [rd_at, rd_at, show q - i = (q - (i + 1)) + 1 by omega]; rfl
        rw [if_pos h2, if_pos (by rw [List.length_cons]; omega), es]
      · rw [if_neg h2, if_neg (by rw [List.length_cons]; omega)]
theorem okQ_of {n : Nat} (hn : n ≤ 5) {q : List Int} (h : PermOf n q) : okQ (n : Int) q = true := by
  unfold okQ
  simp only [Bool.and_eq_true, decide_eq_true_eq, List.all_eq_true, List.mem_range]
  refine ⟨by rw [h.len]; exact Int.le_refl _, by omega, fun i hi => ?_⟩
  have := h.rng _ (List.mem_of_mem_drop (rdI_drop hi ▸ List.mem_cons_self))
  omega
theorem con_bd {i j : Nat} {B : Int} (hB : 0 ≤ B) : ∀ (all : List (List Int)) (xs : List Int), (∀ x ∈ xs, 0 ≤ x ∧ x ≤ B) → 0 ≤ con i j all xs ∧ con i j all xs ≤ B * (xs.length : Nat)
  | [], xs, _ => by
    simp only [con, List.zip_nil_left, List.map_nil, List.sum_nil]
    exact ⟨Int.le_refl _, Int.mul_nonneg hB (by omega)⟩
  | _ :: _, [], _ => by simp [con]
  | p :: all, x :: xs, h => by
    have ih := con_bd hB (i := i) (j := j) all xs fun y hy => h y (List.mem_cons_of_mem _ hy)
    have := h x List.mem_cons_self
    unfold con at *
    simp only [List.zip_cons_cons, List.map_cons, List.sum_cons, List.length_cons]
    rw [Int.natCast_add, Int.mul_add]
    split <;> omega
theorem con_take {i j : Nat} {all : List (List Int)} {xs : List Int} {c : Nat} (h1 : c < all.length) (h2 : c < xs.length) : con i j (all.take (c + 1)) (xs.take (c + 1)) = con i j (all.take c) (xs.take c) + if rd (rd_L1 all (c : Int)) (i : Int) = (j : Int) then xs[c] else 0 := by
  rw [List.take_succ_eq_append_getElem h1, List.take_succ_eq_append_getElem h2, con_snoc (by simp; omega)]
  simp [rd_L1, List.getD_eq_getElem?_getD, List.getElem?_eq_getElem h1]
theorem rd_set_ne {r : List Int} {a b : Nat} (v : Int) (ha : a < r.length) : rd (r.set a v) (b : Int) = if b = a then v else rd r (b : Int) := by
  rw [rd_at, rd_at, set_getD _ _ _ _ ha]
/-- the program's sum of what permutations make -/
theorem chk_l {n : Nat} (hn1 : 1 ≤ n) (hn : n ≤ 5) {A : Int} (hA : 1 ≤ A) (hA2 : A ≤ 10000000) (p : List (List Int)) (ws : List S62) (hlen : p.length = ws.length) (h100 : p.length ≤ 100) (hq : ∀ q ∈ p, q.length ≤ 1000) (hT : ∀ f ∈ ws, Th A f) (k : Nat) (hk : 2000 < k) :
    ∀ (c i : Nat) (G : List (List Int)), i + c = p.length → G.length = n → (∀ a : Nat, a < n → (rd_L1 G (a : Int)).length = 5) → (∀ a : Nat, a < n → ∀ b : Nat, b < 5 → rd (rd_L1 G (a : Int)) (b : Int) = con a b (p.take i) ((rowV A ws).take i)) →
      ((∀ q ∈ p.drop i, PermOf n q) ∧ (∀ f ∈ ws.drop i, f.f0 ≠ 0) ∧ ∃ G', chkL k (n : Int) A ws (p.drop i) (i : Int) ((rowV A ws).take i).sum G = some (some ((rowV A ws).sum, G')) ∧ ∀ a : Nat, a < n → ∀ b : Nat, b < 5 → rd (rd_L1 G' (a : Int)) (b : Int) = con a b p (rowV A ws)) ∨
      (¬ ((∀ q ∈ p.drop i, PermOf n q) ∧ ∀ f ∈ ws.drop i, f.f0 ≠ 0) ∧ chkL k (n : Int) A ws (p.drop i) (i : Int) ((rowV A ws).take i).sum G = some none) := by
  intro c
  have hlV : (rowV A ws).length = p.length := by simp [rowV, hlen]
  induction c with
  | zero =>
    intro i G hi hG hG5 hc
    rw [List.drop_of_length_le (by omega), List.drop_of_length_le (by omega), List.take_of_length_le (by omega)]
    rw [List.take_of_length_le (by omega), List.take_of_length_le (by omega)] at hc
    exact .inl ⟨by simp, by simp, G, rfl, hc⟩
  | succ c ih =>
    intro i G hi hG hG5 hc
    have hip : i < p.length := by omega
    have hiw : i < ws.length := by omega
    rw [rdL_drop hip, rdF_drop hiw, chkL]
    have hqm := rdL_mem hip
    have hTh := hT _ (rd_mem hiw)
    have hTi := hTh.bd (by omega)
    obtain ⟨g1, _, g3⟩ := hTh.go (by omega) (by omega)
    rw [isPerm_f hn _ (by have := hq _ hqm; omega) k (by have := hq _ hqm; omega)]
    dsimp only
    by_cases hp : PermOf n (rd_L1 p (i : Int))
    · rw [dc_true hp, if_pos rfl]
      by_cases h0 : (rd_T62 ws (i : Int)).f0 = 0
      · rw [if_pos h0]
        exact .inr ⟨fun h => h.2 _ List.mem_cons_self h0, rfl⟩
      · have hwg : wgt A ws (i : Int) = val A (rd_T62 ws (i : Int)) := g1
        rw [if_neg h0, if_neg g3, if_pos (okQ_of hn hp), hwg]
        obtain ⟨s1, s2⟩ := take_succ_sum (rowV A ws) i (by omega)
        rw [rowV_at hiw] at s1
        have hsb := sum_bd A (ws.take i) (fun f hf => hT f (List.mem_of_mem_take hf)) (by omega)
        have hs2 : ((rowV A ws).take i).sum = (rowV A (ws.take i)).sum := by simp [rowV, List.map_take]
        have hs3 : A * ((ws.take i).length : Nat) ≤ 1000000000 := by
          have : ((ws.take i).length : Int) ≤ 100 := by rw [List.length_take]; omega
          have := Int.mul_le_mul hA2 this (by omega) (by omega)
          omega
        rw [w6 (by omega) (by omega), ← s1, show (i : Int) + 1 = ((i + 1 : Nat) : Int) by omega]
        obtain ⟨a1, a2⟩ := addL_spec (val A (rd_T62 ws (i : Int))) (rd_L1 p (i : Int)) 0 G (by rw [hp.len, hG]; omega)
        rw [show ((0 : Nat) : Int) = 0 from rfl] at a1 a2
        have hpr : ∀ a : Nat, a < n → 0 ≤ rd (rd_L1 p (i : Int)) (a : Int) ∧ rd (rd_L1 p (i : Int)) (a : Int) < (n : Int) := fun a ha => hp.rng _ (List.mem_of_mem_drop (rdI_drop (by rw [hp.len]; exact ha) ▸ List.mem_cons_self))
        have hvb : ∀ x ∈ (rowV A ws).take i, 0 ≤ x ∧ x ≤ A := fun x hx => by
          obtain ⟨f, hf, rfl⟩ := List.mem_map.mp (List.mem_of_mem_take hx)
          exact (hT f hf).bd (by omega)
        have hrow : ∀ a, a < n → rd_L1 (addL (val A (rd_T62 ws (i : Int))) G (rd_L1 p (i : Int)) 0) (a : Int) = (rd_L1 G (a : Int)).set (rd (rd_L1 p (i : Int)) (a : Int)).toNat (rd (rd_L1 G (a : Int)) (rd (rd_L1 p (i : Int)) (a : Int)) + val A (rd_T62 ws (i : Int))) := fun a ha => by
          have hpa := hpr a ha
          have hcb := con_bd (i := a) (j := (rd (rd_L1 p (i : Int)) (a : Int)).toNat) (B := A) (by omega) (p.take i) ((rowV A ws).take i) hvb
          have hlt : A * (((rowV A ws).take i).length : Nat) ≤ 1000000000 := by
            have : (((rowV A ws).take i).length : Int) ≤ 100 := by rw [List.length_take]; omega
            have := Int.mul_le_mul hA2 this (by omega) (by omega)
            omega
          have hg := hc a ha _ (show (rd (rd_L1 p (i : Int)) (a : Int)).toNat < 5 by omega)
          rw [Int.toNat_of_nonneg hpa.1] at hg
          rw [a2 a, if_pos (by rw [hp.len]; omega), Nat.sub_zero, w6 (by omega) (by omega)]
        rcases ih (i + 1) _ (by omega) (by rw [a1, hG]) (fun a ha => by rw [hrow a ha, List.length_set]; exact hG5 a ha) (fun a ha b hb => by
          have hpa := hpr a ha
          rw [hrow a ha, rd_set_ne _ (by rw [hG5 a ha]; omega), con_take hip (by omega), rowV_at hiw]
          by_cases e : b = (rd (rd_L1 p (i : Int)) (a : Int)).toNat
          · have e2 : rd (rd_L1 p (i : Int)) (a : Int) = (b : Int) := by omega
            rw [if_pos e, if_pos e2, e2, hc a ha b hb]
          · rw [if_neg e, if_neg (by omega), hc a ha b hb]; omega) with ⟨b1, b2, G', b3, b4⟩ | ⟨b1, b2⟩
        · exact .inl ⟨fun q hq' => by
            rcases List.mem_cons.mp hq' with h | h
            · rw [h]; exact hp
            · exact b1 q h, fun f hf => by
            rcases List.mem_cons.mp hf with h | h
            · rw [h]; exact h0
            · exact b2 f h, G', b3, b4⟩
        · exact .inr ⟨fun h => b1 ⟨fun q hq' => h.1 q (List.mem_cons_of_mem _ hq'), fun f hf => h.2 f (List.mem_cons_of_mem _ hf)⟩, b2⟩
    · rw [dc_false hp, if_neg (by decide)]
      exact .inr ⟨fun h => hp (h.1 _ List.mem_cons_self), rfl⟩
theorem cmpL_spec (D A : Int) (g r : List Int) : ∀ (c j : Nat), j + c = r.length → (cmpL D A g (r.drop j) (j : Int) = true ↔ ∀ b : Nat, j ≤ b → b < r.length → wrap64 (rd g (b : Int) * D) = wrap64 (rd r (b : Int) * A)) := by
  intro c
  induction c with
  | zero =>
    intro j hj
    rw [List.drop_of_length_le (by omega), cmpL]
    exact ⟨fun _ b h1 h2 => by omega, fun _ => rfl⟩
  | succ c ih =>
    intro j hj
    have h := ih (j + 1) (by omega)
    rw [show ((j + 1 : Nat) : Int) = (j : Int) + 1 by omega] at h
    rw [rdI_drop (by omega), cmpL]
    by_cases e : wrap64 (rd g (j : Int) * D) = wrap64 (rd r (j : Int) * A)
    · rw [if_pos e, h]
      constructor
      · intro h2 b h3 h4
        by_cases e2 : b = j
        · subst e2; exact e
        · exact h2 b (by omega) h4
      · intro h2 b h3 h4
        exact h2 b (by omega) h4
    · rw [if_neg e]
      exact ⟨fun h2 => (by cases h2), fun h2 => absurd (h2 j (Nat.le_refl _) (by omega)) e⟩
theorem cmpR_spec (D A : Int) (G L : List (List Int)) : ∀ (c i : Nat), i + c = L.length → (cmpR D A G (L.drop i) (i : Int) = true ↔ ∀ a : Nat, i ≤ a → a < L.length → ∀ b : Nat, b < (rd_L1 L (a : Int)).length → wrap64 (rd (rd_L1 G (a : Int)) (b : Int) * D) = wrap64 (rd (rd_L1 L (a : Int)) (b : Int) * A)) := by
  intro c
  induction c with
  | zero =>
    intro i hi
    rw [List.drop_of_length_le (by omega), cmpR]
    exact ⟨fun _ b h1 h2 => by omega, fun _ => rfl⟩
  | succ c ih =>
    intro i hi
    have h := ih (i + 1) (by omega)
    rw [show ((i + 1 : Nat) : Int) = (i : Int) + 1 by omega] at h
    have hc := cmpL_spec D A (rd_L1 G (i : Int)) (rd_L1 L (i : Int)) (rd_L1 L (i : Int)).length 0 (by omega)
    rw [List.drop_zero] at hc
    rw [rdL_drop (by omega), cmpR]
    by_cases e : cmpL D A (rd_L1 G (i : Int)) (rd_L1 L (i : Int)) 0 = true
    · rw [if_pos e, h]
      constructor
      · intro h2 a h3 h4 b h5
        by_cases e2 : a = i
        · subst e2; exact hc.mp e b (Nat.zero_le _) h5
        · exact h2 a (by omega) h4 b h5
      · intro h2 a h3 h4
        exact h2 a (by omega) h4
    · rw [if_neg e]
      exact ⟨fun h2 => (by cases h2), fun h2 => absurd (hc.mpr fun b _ h5 => h2 i (Nat.le_refl _) (by omega) b h5) e⟩
theorem flat1 (ws : List S62) : [ws].flatten = ws := by simp
/-- the program's CheckSplit -/
theorem CheckSplit_f (m : List (List S62)) (hl : m.length ≤ 9) (hr : ∀ r ∈ m, r.length ≤ 9) (hb : ∀ r ∈ m, ∀ f ∈ r, B64 f) (p : List (List Int)) (hp : ∀ q ∈ p, q.length ≤ 1000) (ws : List S62) (hw : ws.length ≤ 1000) (hwb : ∀ f ∈ ws, B64 f) (k : Nat) (hk : 2200000 + KG ≤ k) :
    (1 ≤ m.length ∧ m.length ≤ 5 ∧ ∃ D, Mx 10000 m.length m D ∧ xCheckSplit.f k m p ws = some (dc (SplitOf m.length (mxv D m) D p ws), 0)) ∨ (¬ (1 ≤ m.length ∧ m.length ≤ 5 ∧ ∃ D, Mx 10000 m.length m D) ∧ xCheckSplit.f k m p ws = some (false, 2)) := by
  obtain ⟨L, d, ok, e, h⟩ := read_f m hl hr hb k hk
  unfold xCheckSplit.f
  rw [e]
  dsimp only
  rcases h with ⟨rfl, h1, h5, hM, rfl⟩ | ⟨rfl, hn⟩
  · refine .inl ⟨h1, h5, d, hM, ?_⟩
    obtain ⟨d1, d2, hT⟩ := mul_Th (by decide) hM.mul hM.ne
    have hs := st_init hM
    rw [if_pos rfl]
    by_cases c1 : (p.length : Int) = (ws.length : Int)
    · rw [if_pos c1]
      by_cases c2 : (p.length : Int) > 100
      · rw [if_pos c2, dc_false fun h => by have := h.h100; omega]
      · rw [if_neg c2, multiple_f 10000000 (by decide) (by decide) [ws] (by simp) (fun r hr => by rw [List.mem_singleton.mp hr]; exact hw) (fun r hr f hf => by rw [List.mem_singleton.mp hr] at hf; exact hwb f hf) k (by omega), flat1]
        by_cases c3 : mulP 10000000 true ws 1 = 0
        · rw [c3, dc_false fun h => h.ne c3]; rfl
        · rw [packM, if_neg c3]
          dsimp only
          rw [if_pos rfl, if_pos ⟨okL_of h1 h5 hs.len hs.sq, by simp⟩]
          obtain ⟨a1, a2, _, a4, _⟩ := mulP_spec 10000000 true ws 1 (by omega) (by decide) c3
          have hTw : ∀ f ∈ ws, Th (mulP 10000000 true ws 1) f := fun f hf => Th.of (a4 f hf).1 (a4 f hf).2
          have hG0 : ∀ a : Nat, a < m.length → rd_L1 (List.replicate m.length [0, 0, 0, 0, 0]) (a : Int) = [0, 0, 0, 0, 0] := fun a ha => by
            simp [rd_L1, List.getD_eq_getElem?_getD, ha]
          have hck := chk_l h1 h5 a1 a2 p ws (by omega) (by omega) hp hTw k (by omega) p.length 0 (List.replicate m.length [0, 0, 0, 0, 0]) (by omega) (by simp) (fun a ha => by rw [hG0 a ha]; rfl) (fun a ha b hb => by
            rw [hG0 a ha, List.take_zero]
            have : con a b [] ((rowV (mulP 10000000 true ws 1) ws).take 0) = 0 := by simp [con]
            rw [this, rd_at]
            match b, hb with
            | 0, _ => rfl
            | 1, _ => rfl
            | 2, _ => rfl
            | 3, _ => rfl
            | 4, _ => rfl)
          rw [List.drop_zero, List.drop_zero, List.take_zero] at hck
          have e0 : ([] : List Int).sum = 0 := rfl
          rw [e0, show ((0 : Nat) : Int) = 0 from rfl] at hck
          generalize hA : mulP 10000000 true ws 1 = A at *
          rcases hck with ⟨b1, b2, G', b3, b4⟩ | ⟨b1, b2⟩
          · rw [b3]
            dsimp only
            have hcmp := cmpR_spec d A G' (m.map (rowV d)) (m.map (rowV d)).length 0 (by omega)
            rw [List.drop_zero] at hcmp
            have hvb : ∀ x ∈ rowV A ws, 0 ≤ x ∧ x ≤ A := fun x hx => by
              obtain ⟨f, hf, rfl⟩ := List.mem_map.mp hx
              exact (hTw f hf).bd (by omega)
            have hall : cmpR d A G' (m.map (rowV d)) 0 = true ↔ ∀ i, i < m.length → ∀ j, j < m.length → con i j p (rowV A ws) * d = mxv d m i j * A := by
              rw [show (0 : Int) = ((0 : Nat) : Int) from rfl, hcmp, hs.len]
              have hrl : ∀ a : Nat, a < m.length → (rd_L1 (m.map (rowV d)) (a : Int)).length = m.length := fun a ha => hs.sq _ (rdL_mem (by rw [hs.len]; exact ha))
              have key : ∀ a : Nat, a < m.length → ∀ b : Nat, b < m.length → (wrap64 (rd (rd_L1 G' (a : Int)) (b : Int) * d) = wrap64 (rd (rd_L1 (m.map (rowV d)) (a : Int)) (b : Int) * A) ↔ con a b p (rowV A ws) * d = mxv d m a b * A) := by
                intro a ha b hb
                have e1 := hs.cnt a ha b hb
                have e2 := hs.nn a ha b hb
                have e3 := rs_ge m.length (fun j hj => hs.nn a ha j hj) b hb
                rw [hs.row a ha] at e3
                have e4 : con a b [] [] = 0 := by simp [con]
                rw [e4, Int.add_zero] at e1
                have e5 : rd (rd_L1 (m.map (rowV d)) (a : Int)) (b : Int) = mxv d m a b := e1.symm
                have hcb := con_bd (i := a) (j := b) (B := A) (by omega) p (rowV A ws) hvb
                have hlen : ((rowV A ws).length : Int) ≤ 100 := by simp [rowV]; omega
                have hA9 := Int.mul_le_mul a2 hlen (by omega) (by omega)
                have hx1 := Int.mul_le_mul (show con a b p (rowV A ws) ≤ 1000000000 by omega) d2 (by omega) (by omega)
                have hx2 := Int.mul_le_mul (show mxv d m a b ≤ 10000 by omega) a2 (by omega) (by omega)
                have hx3 := Int.mul_nonneg hcb.1 (show 0 ≤ d by omega)
                have hx4 := Int.mul_nonneg (show 0 ≤ mxv d m a b by omega) (show 0 ≤ A by omega)
                rw [b4 a ha b (by omega), e5, w6 (by omega) (by omega), w6 (by omega) (by omega)]
              constructor
              · intro h i hi j hj
                exact (key i hi j hj).mp (h i (Nat.zero_le _) hi j (by rw [hrl i hi]; exact hj))
              · intro h a _ ha b hb
                rw [hrl a ha] at hb
                exact (key a ha b hb).mpr (h a ha b hb)
            by_cases c4 : cmpR d A G' (m.map (rowV d)) 0 = true
            · rw [if_pos c4]
              congr 2
              rw [Bool.eq_iff_iff, decide_eq_true_eq, dc_iff]
              constructor
              · intro hsum
                exact ⟨by omega, by omega, by rw [hA]; exact c3, b1, b2, by rw [hA]; exact hsum, by rw [hA]; exact hall.mp c4⟩
              · intro h
                have := h.sum
                rwa [hA] at this
            · rw [if_neg c4, dc_false]
              intro h
              have := h.cnt
              rw [hA] at this
              exact c4 (hall.mpr this)
          · rw [b2]
            dsimp only
            rw [dc_false]
            intro h
            exact b1 ⟨h.perm, h.pos⟩
    · rw [if_neg c1, dc_false fun h => c1 (by have := h.len; omega)]
  · exact .inr ⟨hn, by rw [if_neg (by decide)]⟩
end Go.Proofs.Ytefmafbbnkkpjaa.Pure
