/- The common multiple of fractions, as a function of lists; both packages reckon it. -/
import Derived.Test.YtefmafbbnkkpjaaSC
import Derived.Test.YtefmafbbnkkpjaaSA
namespace Go.Proofs.Ytefmafbbnkkpjaa.Pure
open Go Go.RowKit Go.Proofs.Ytefmafbbnkkpjaa.X Go.Proofs.YtefmafbbnkkpjaaW.PrintWords Go.Proofs.YtefmafbbnkkpjaaW.PrintLast Go.Proofs.YtefmafbbnkkpjaaW.PrintMore
set_option linter.unusedVariables false
set_option linter.unusedSimpArgs false

/-- a fraction that is told in lowest terms, from 0 on, its denominator up to a bound; strict: up to 1 -/
structure OkF (most : Int) (strict : Bool) (f : S62) : Prop where
  d1 : 1 ≤ f.f1
  dm : f.f1 ≤ most
  n0 : 0 ≤ f.f0
  ns : strict = true → f.f0 ≤ f.f1
  g : Int.gcd f.f0 f.f1 = 1
open Classical in
noncomputable def mulP (most : Int) (strict : Bool) : List S62 → Int → Int
  | [], d => d
  | f :: fs, d => if OkF most strict f then (if (Int.lcm d f.f1 : Int) > most then 0 else mulP most strict fs (Int.lcm d f.f1 : Int)) else 0
theorem mulP_yes {most : Int} {strict : Bool} {f : S62} {fs : List S62} {d : Int} (h : OkF most strict f) (hl : ¬ (Int.lcm d f.f1 : Int) > most) : mulP most strict (f :: fs) d = mulP most strict fs (Int.lcm d f.f1 : Int) := by
  rw [mulP, if_pos h, if_neg hl]
theorem mulP_big {most : Int} {strict : Bool} {f : S62} {fs : List S62} {d : Int} (hl : (Int.lcm d f.f1 : Int) > most) : mulP most strict (f :: fs) d = 0 := by
  rw [mulP]
  by_cases h : OkF most strict f
  · rw [if_pos h, if_pos hl]
  · rw [if_neg h]
theorem mulP_no {most : Int} {strict : Bool} {f : S62} {fs : List S62} {d : Int} (h : ¬ OkF most strict f) : mulP most strict (f :: fs) d = 0 := by
  rw [mulP, if_neg h]
theorem dvd_lcm_l (a b : Int) : a ∣ (Int.lcm a b : Int) := Int.dvd_lcm_left ..
theorem dvd_lcm_r (a b : Int) : b ∣ (Int.lcm a b : Int) := Int.dvd_lcm_right ..
theorem lcm_dvd' {a b c : Int} (h1 : a ∣ c) (h2 : b ∣ c) : (Int.lcm a b : Int) ∣ c := Int.coe_lcm_dvd h1 h2
/-- what a common multiple is -/
theorem mulP_spec (most : Int) (strict : Bool) : ∀ (l : List S62) (d : Int), 1 ≤ d → d ≤ most → mulP most strict l d ≠ 0 →
    1 ≤ mulP most strict l d ∧ mulP most strict l d ≤ most ∧ d ∣ mulP most strict l d ∧ (∀ f ∈ l, OkF most strict f ∧ f.f1 ∣ mulP most strict l d) ∧ ∀ R, d ∣ R → (∀ f ∈ l, f.f1 ∣ R) → mulP most strict l d ∣ R
  | [], d, h1, hm, h => ⟨h1, hm, Int.dvd_refl _, by simp, fun R hR _ => hR⟩
  | f :: fs, d, h1, hm, h => by
    by_cases hf : OkF most strict f
    · by_cases hl : (Int.lcm d f.f1 : Int) > most
      · exact absurd (mulP_big hl) h
      · rw [mulP_yes hf hl] at h ⊢
        obtain ⟨a1, a2, a3, a4, a5⟩ := mulP_spec most strict fs _ (lcm_pos h1 hf.d1) (by omega) h
        refine ⟨a1, a2, Int.dvd_trans (dvd_lcm_l _ _) a3, fun x hx => ?_, fun R hd hR => a5 R (lcm_dvd' hd (hR f List.mem_cons_self)) fun x hx => hR x (List.mem_cons_of_mem _ hx)⟩
        rcases List.mem_cons.mp hx with rfl | hx
        · exact ⟨hf, Int.dvd_trans (dvd_lcm_r _ _) a3⟩
        · exact a4 x hx
    · exact absurd (mulP_no hf) h
theorem OkF.lax {most : Int} {strict : Bool} {f : S62} (h : OkF most strict f) : OkF most false f := ⟨h.d1, h.dm, h.n0, fun e => (by cases e), h.g⟩
theorem OkF.more {m M : Int} {strict : Bool} {f : S62} (h : OkF m strict f) (hM : m ≤ M) : OkF M strict f := ⟨h.d1, by have := h.dm; omega, h.n0, h.ns, h.g⟩
/-- where no fraction is above 1, both are one -/
theorem mulP_strict (most : Int) : ∀ (l : List S62) (d : Int), (∀ f ∈ l, f.f0 ≤ f.f1) → mulP most true l d = mulP most false l d
  | [], d, _ => rfl
  | f :: fs, d, h => by
    have ih := mulP_strict most fs (Int.lcm d f.f1 : Int) fun x hx => h x (List.mem_cons_of_mem _ hx)
    by_cases hf : OkF most false f
    · have ht : OkF most true f := ⟨hf.d1, hf.dm, hf.n0, fun _ => h f List.mem_cons_self, hf.g⟩
      by_cases hl : (Int.lcm d f.f1 : Int) > most
      · rw [mulP_big hl, mulP_big hl]
      · rw [mulP_yes hf hl, mulP_yes ht hl, ih]
    · rw [mulP_no hf, mulP_no fun h => hf h.lax]
/-- a strict one is the lax one -/
theorem mulP_lax (most : Int) (l : List S62) (d : Int) (h1 : 1 ≤ d) (hm : d ≤ most) (h : mulP most true l d ≠ 0) : mulP most false l d = mulP most true l d :=
  (mulP_strict most l d fun f hf => ((mulP_spec most true l d h1 hm h).2.2.2.1 f hf).1.ns rfl).symm
/-! ### the program's multiple -/
theorem rdF_drop {l : List S62} {i : Nat} (h : i < l.length) : l.drop i = rd_T62 l (i : Int) :: l.drop (i + 1) := by
  rw [List.drop_eq_getElem_cons h]
  simp [rd_T62, List.getD_eq_getElem?_getD, List.getElem?_eq_getElem h]
theorem rdM_drop {l : List (List S62)} {i : Nat} (h : i < l.length) : l.drop i = rd_L5 l (i : Int) :: l.drop (i + 1) := by
  rw [List.drop_eq_getElem_cons h]
  simp [rd_L5, List.getD_eq_getElem?_getD, List.getElem?_eq_getElem h]
/-- bounded numbers -/
def B64 (f : S62) : Prop := -9223372036854775808 ≤ f.f0 ∧ f.f0 ≤ 9223372036854775807 ∧ -9223372036854775808 ≤ f.f1 ∧ f.f1 ≤ 9223372036854775807
def packM (r : Int) : Int × Bool := if r = 0 then (0, false) else (r, true)
theorem isFrac_f {k : Nat} (hk : KG ≤ k) (f : S62) (hb : B64 f) : ∃ b, shares_isFrac.f k f.f0 f.f1 = some b ∧ (b = true ↔ 1 ≤ f.f1 ∧ 0 ≤ f.f0 ∧ f.f0 ≤ f.f1 ∧ Int.gcd f.f0 f.f1 = 1) := by
  obtain ⟨b1, b2, b3, b4⟩ := hb
  unfold shares_isFrac.f
  by_cases h1 : f.f1 ≥ 1
  · rw [if_pos h1]
    by_cases h2 : f.f0 ≥ 0
    · rw [if_pos h2]
      by_cases h3 : f.f0 ≤ f.f1
      · rw [if_pos h3, gcd_f hk (by omega) b2 (by omega) b4, Option.bind_some]
        refine ⟨_, rfl, ?_⟩
        rw [beq_iff_eq]
        constructor
        · intro h; exact ⟨h1, h2, h3, by omega⟩
        · intro h; rw [h.2.2.2]; rfl
      · rw [if_neg h3]; exact ⟨false, rfl, by simp; omega⟩
    · rw [if_neg h2]; exact ⟨false, rfl, by simp; omega⟩
  · rw [if_neg h1]; exact ⟨false, rfl, by simp; omega⟩
theorem mul_row (most : Int) (hm : most ≤ 10000000) (M : List (List S62)) (hM : M.length ≤ 1000) (hc : ∀ r ∈ M, r.length ≤ 1000) (hb : ∀ r ∈ M, ∀ f ∈ r, B64 f) (r : Nat) (row : List S62) (hrow : row.length ≤ 1000) (hrb : ∀ f ∈ row, B64 f) (T : Nat)
    (next : ∀ (k : Nat) (d : Int), 1 ≤ d → d ≤ most → T + KG ≤ k → shares_mixture_multiple.l0 k most d M (M.length : Int) ((r : Int) + 1) = some (packM (mulP most true (M.drop (r + 1)).flatten d))) (hr : r < 1000) :
    ∀ (n c k : Nat) (d : Int), c + n = row.length → 1 ≤ d → d ≤ most → n * 2 + 2 + T + KG ≤ k → shares_mixture_multiple.l1 k most d M (M.length : Int) (r : Int) row (row.length : Int) (c : Int) = some (packM (mulP most true (row.drop c ++ (M.drop (r + 1)).flatten) d)) := by
  intro n
  induction n with
  | zero =>
    intro c k d hcn hd hdm hk
    obtain ⟨k, rfl⟩ : ∃ q, k = q + 1 := ⟨k - 1, by omega⟩
    rw [shares_mixture_multiple.l1, if_neg (by omega), List.drop_of_length_le (by omega), List.nil_append, w6 (by omega) (by omega)]
    exact next k d hd hdm (by omega)
  | succ n ih =>
    intro c k d hcn hd hdm hk
    obtain ⟨k, rfl⟩ : ∃ q, k = q + 1 := ⟨k - 1, by omega⟩
    obtain ⟨k, rfl⟩ : ∃ q, k = q + 1 := ⟨k - 1, by omega⟩
    have hcl : c < row.length := by omega
    have hmem : rd_T62 row (c : Int) ∈ row := by
      have := rdF_drop hcl
      exact List.mem_of_mem_drop (this ▸ List.mem_cons_self)
    have hB := hrb _ hmem
    rw [shares_mixture_multiple.l1, if_pos (by omega), if_pos (by omega), if_pos (by omega), rdF_drop hcl, List.cons_append]
    generalize rd_T62 row (c : Int) = f at *
    obtain ⟨b, e1, e2⟩ := isFrac_f (k := k + 1) (by omega) f hB
    rw [e1, Option.bind_some]
    by_cases hf : OkF most true f
    · have hbt : b = true := e2.mpr ⟨hf.d1, hf.n0, hf.ns rfl, hf.g⟩
      subst hbt
      have hdm2 := hf.dm
      rw [if_pos rfl, shares_mixture_multiple.j2, if_neg (by simp; exact hdm2), gcd_f (by omega) (by omega) (by omega) (by have := hf.d1; omega) (by omega), Option.bind_some]
      have hg : (0 : Int) < Int.gcd d f.f1 := by
        have := Int.gcd_pos_of_ne_zero_left f.f1 (show d ≠ 0 by omega)
        omega
      obtain ⟨t1, t2⟩ := tdiv_bd hd f.f1
      have hle : (Int.lcm d f.f1 : Int) ≤ 100000000000000 := by
        rw [← lcm_eq hd hf.d1]
        have h1 := Int.mul_le_mul_of_nonneg_right t2 (show 0 ≤ f.f1 by have := hf.d1; omega)
        have h2 := Int.mul_le_mul (show d ≤ 10000000 by omega) (show f.f1 ≤ 10000000 by omega) (by have := hf.d1; omega) (by omega)
        omega
      have hlp := lcm_pos hd hf.d1
      rw [if_neg (by omega), w6 (i := Int.tdiv d _) (by omega) (by omega), lcm_eq hd hf.d1, w6 (by omega) (by omega)]
      by_cases hl : (Int.lcm d f.f1 : Int) > most
      · rw [if_pos hl, mulP_big hl]; rfl
      · rw [if_neg hl, mulP_yes hf hl, w6 (by omega) (by omega), show (c : Int) + 1 = ((c + 1 : Nat) : Int) by omega]
        exact ih (c + 1) k _ (by omega) hlp (by omega) (by omega)
    · rw [mulP_no hf]
      cases b with
      | false => rw [if_neg (by decide), shares_mixture_multiple.j2, if_pos rfl]; rfl
      | true =>
        have h9 := e2.mp rfl
        have : f.f1 > most := by
          by_cases h : f.f1 > most
          · exact h
          · exact absurd ⟨h9.1, by omega, h9.2.1, fun _ => h9.2.2.1, h9.2.2.2⟩ hf
        rw [if_pos rfl, shares_mixture_multiple.j2, if_pos (decide_eq_true this)]; rfl
theorem mul_l (most : Int) (hm : most ≤ 10000000) (M : List (List S62)) (hM : M.length ≤ 1000) (hc : ∀ r ∈ M, r.length ≤ 1000) (hb : ∀ r ∈ M, ∀ f ∈ r, B64 f) :
    ∀ (n r k : Nat) (d : Int), r + n = M.length → 1 ≤ d → d ≤ most → n * 2010 + 1 + KG ≤ k → shares_mixture_multiple.l0 k most d M (M.length : Int) (r : Int) = some (packM (mulP most true (M.drop r).flatten d)) := by
  intro n
  induction n with
  | zero =>
    intro r k d hrn hd hdm hk
    obtain ⟨k, rfl⟩ : ∃ q, k = q + 1 := ⟨k - 1, by omega⟩
    rw [shares_mixture_multiple.l0, if_neg (by omega), List.drop_of_length_le (by omega)]
    show some (d, true) = some (packM d)
    rw [packM, if_neg (by omega)]
  | succ n ih =>
    intro r k d hrn hd hdm hk
    obtain ⟨k, rfl⟩ : ∃ q, k = q + 1 := ⟨k - 1, by omega⟩
    have hrl : r < M.length := by omega
    have hmem : rd_L5 M (r : Int) ∈ M := by
      have := rdM_drop hrl
      exact List.mem_of_mem_drop (this ▸ List.mem_cons_self)
    have h1 := hc _ hmem
    rw [shares_mixture_multiple.l0, if_pos (by omega), if_pos (by omega), if_pos (by omega), rdM_drop hrl, List.flatten_cons]
    have := mul_row most hm M hM hc hb r (rd_L5 M (r : Int)) h1 (hb _ hmem) (n * 2010 + 1) (fun k d hd hdm hk => by
      have := ih (r + 1) k d (by omega) hd hdm hk
      rwa [show ((r + 1 : Nat) : Int) = (r : Int) + 1 by omega] at this) (by omega) (rd_L5 M (r : Int)).length 0 k d (by omega) hd hdm (by omega)
    rw [List.drop_zero] at this
    exact this
theorem multiple_f (most : Int) (h1 : 1 ≤ most) (hm : most ≤ 10000000) (M : List (List S62)) (hM : M.length ≤ 1000) (hc : ∀ r ∈ M, r.length ≤ 1000) (hb : ∀ r ∈ M, ∀ f ∈ r, B64 f) (k : Nat) (hk : 2100000 + KG ≤ k) :
    shares_mixture_multiple.f k M most = some (packM (mulP most true M.flatten 1)) := by
  have := mul_l most hm M hM hc hb M.length 0 k 1 (by omega) (by omega) h1 (by omega)
  rw [List.drop_zero] at this
  exact this
/-! ### the reference's Multiple -/
theorem rmul_l (most : Int) (hm : most ≤ 10000000) (L : List S62) (hL : L.length ≤ 9000000000000000000) (hb : ∀ f ∈ L, B64 f) :
    ∀ (n c k : Nat) (d : Int), c + n = L.length → 1 ≤ d → d ≤ most → n * 2 + 1 + KG ≤ k → congouref01_Multiple.l0 k most d L (L.length : Int) (c : Int) = some (mulP most false (L.drop c) d) := by
  intro n
  induction n with
  | zero =>
    intro c k d hcn hd hdm hk
    obtain ⟨k, rfl⟩ : ∃ q, k = q + 1 := ⟨k - 1, by omega⟩
    rw [congouref01_Multiple.l0, if_neg (by omega), List.drop_of_length_le (by omega)]
    rfl
  | succ n ih =>
    intro c k d hcn hd hdm hk
    obtain ⟨k, rfl⟩ : ∃ q, k = q + 1 := ⟨k - 1, by omega⟩
    obtain ⟨k, rfl⟩ : ∃ q, k = q + 1 := ⟨k - 1, by omega⟩
    have hcl : c < L.length := by omega
    have hmem : rd_T62 L (c : Int) ∈ L := by
      have := rdF_drop hcl
      exact List.mem_of_mem_drop (this ▸ List.mem_cons_self)
    obtain ⟨b1, b2, b3, b4⟩ := hb _ hmem
    rw [congouref01_Multiple.l0, if_pos (by omega), if_pos (by omega), if_pos (by omega), rdF_drop hcl]
    generalize rd_T62 L (c : Int) = f at *
    have hno : ∀ k (b : Bool), b = true → congouref01_Multiple.j1 (k + 1) most d L (L.length : Int) (c : Int) b f.f0 f.f1 = some 0 := fun k b h => by rw [congouref01_Multiple.j1, if_pos h]
    by_cases c1 : f.f1 < 1
    · rw [if_pos c1, hno _ _ rfl, mulP_no fun h => by have := h.d1; omega]
    · rw [if_neg c1]
      by_cases c2 : f.f1 > most
      · rw [if_pos c2, hno _ _ rfl, mulP_no fun h => by have := h.dm; omega]
      · rw [if_neg c2]
        by_cases c3 : f.f0 < 0
        · rw [if_pos c3, hno _ _ rfl, mulP_no fun h => by have := h.n0; omega]
        · rw [if_neg c3, rgcd_f (by omega) (by omega) (by omega) b4, Option.bind_some]
          by_cases c4 : Int.gcd f.f0 f.f1 = 1
          · have hf : OkF most false f := ⟨by omega, by omega, by omega, fun e => (by cases e), c4⟩
            have hg : (0 : Int) < Int.gcd d f.f1 := by
              have := Int.gcd_pos_of_ne_zero_left f.f1 (show d ≠ 0 by omega)
              omega
            obtain ⟨t1, t2⟩ := tdiv_bd hd f.f1
            have hle : (Int.lcm d f.f1 : Int) ≤ 100000000000000 := by
              rw [← lcm_eq hd hf.d1]
              have h1 := Int.mul_le_mul_of_nonneg_right t2 (show 0 ≤ f.f1 by omega)
              have h2 := Int.mul_le_mul (show d ≤ 10000000 by omega) (show f.f1 ≤ 10000000 by omega) (by omega) (by omega)
              omega
            have hlp := lcm_pos hd hf.d1
            rw [congouref01_Multiple.j1, c4, if_neg (by decide), rgcd_f (by omega) (by omega) (by omega) b4, Option.bind_some, if_neg (by omega), w6 (i := Int.tdiv d _) (by omega) (by omega), lcm_eq hd hf.d1, w6 (by omega) (by omega)]
            by_cases hl : (Int.lcm d f.f1 : Int) > most
            · rw [if_pos hl, mulP_big hl]
            · rw [if_neg hl, mulP_yes hf hl, w6 (by omega) (by omega), show (c : Int) + 1 = ((c + 1 : Nat) : Int) by omega]
              exact ih (c + 1) k _ (by omega) hlp (by omega) (by omega)
          · rw [hno _ _ (bne_iff_ne.mpr (by omega)), mulP_no fun h => c4 h.g]
theorem Multiple_f (most : Int) (h1 : 1 ≤ most) (hm : most ≤ 10000000) (L : List S62) (hL : L.length ≤ 9000000000000000000) (hb : ∀ f ∈ L, B64 f) (k : Nat) (hk : L.length * 2 + 1 + KG ≤ k) :
    congouref01_Multiple.f k L most = some (mulP most false L 1) := by
  have := rmul_l most hm L hL hb L.length 0 k 1 (by omega) (by omega) h1 (by omega)
  rw [List.drop_zero] at this
  exact this
end Go.Proofs.Ytefmafbbnkkpjaa.Pure
