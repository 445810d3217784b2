/- Parts next below: over the parts of the numbers up to 12, by evaluation. -/
import Derived.Test.YtefmafbbnkkpjaaE43
import Derived.Test.YtefmafbbnkkpjaaSN
namespace Go.Proofs.Ytefmafbbnkkpjaa.Pure
open Go Go.RowKit Go.Proofs.Ytefmafbbnkkpjaa.X Go.Proofs.YtefmafbbnkkpjaaW.PrintWords Go.Proofs.YtefmafbbnkkpjaaW.PrintLast
set_option linter.unusedVariables false
set_option linter.unusedSimpArgs false

def domP : Int → List Int → List Int → Bool
  | t, x :: a, y :: b => decide (0 ≤ t + x - y) && domP (t + x - y) a b
  | t, _, _ => decide (t = 0)
def domB (d b : List Int) : Bool := domP 0 (pad d) (pad b)
/-- d lies above b, and is another. -/
def pB (b d : List Int) : Bool := (b != d) && domB d b
def paB (r : List Int) : Bool := decide (1 ≤ r.length) && descB r && r.all (fun x => decide (1 ≤ x)) && decide (r.sum ≤ 12)
def strictB : List (List Int) → Bool
  | x :: y :: r => decide (0 < cmpL x y) && strictB (y :: r)
  | _ => true
def belowU (a : List Int) : List (List Int) := (outP (lowU a) pB (lowU a).length).reverse
def chkB (a : List Int) : Bool := decide ((lowU a).length ≤ 1000) && (lowU a).all (fun r => paB r && decide (r.sum = a.sum)) && decide ((outP (lowU a) pB (lowU a).length).length ≤ 12) && strictB (belowU a)
def lessB (n : Nat) (a : List Int) : List (List Int) := (allG 12 n 12).filter fun b => (a != b) && domB a b
def rbelowU (n : Nat) (a : List Int) : List (List Int) := (lessB n a).filter fun b => !((lessB n a).any fun c => (b != c) && domB c b)
set_option maxRecDepth 1000000 in
theorem chk_all : ((List.range 12).all fun n => (allG 12 (n + 1) 12).all fun a => chkB a) = true := by decide +kernel
set_option maxRecDepth 1000000 in
theorem same_all : ((List.range 12).all fun n => (allG 12 (n + 1) 12).all fun a => belowU a == rbelowU (n + 1) a) = true := by decide +kernel
theorem paB_iff (r : List Int) : paB r = true ↔ Pa r := by
  unfold paB
  simp only [Bool.and_eq_true, decide_eq_true_eq, List.all_eq_true, descB_iff]
  exact ⟨fun h => ⟨h.1.1.1, h.1.1.2, h.1.2, h.2⟩, fun h => ⟨⟨⟨h.h1, h.desc⟩, h.pos⟩, h.s12⟩⟩
theorem domP_iff : ∀ (x y : List Int) (t : Int), x.length = y.length → (domP t x y = true ↔ (∀ k, k < x.length → 0 ≤ t + psm x (k + 1) - psm y (k + 1)) ∧ t + x.sum - y.sum = 0)
  | [], [], t, _ => by simp [domP]
  | [], _ :: _, t, h => by simp at h
  | _ :: _, [], t, h => by simp at h
  | x :: a, y :: b, t, h => by
    have ih := domP_iff a b (t + x - y) (by simpa using h)
    rw [domP, Bool.and_eq_true, decide_eq_true_eq, ih]
    simp only [List.length_cons, List.sum_cons, psm_cons]
    constructor
    · rintro ⟨h0, h1, h2⟩
      refine ⟨fun k hk => ?_, by omega⟩
      cases k with
      | zero => simp only [psm_zero]; omega
      | succ k => have := h1 k (by omega); omega
    · rintro ⟨h1, h2⟩
      have h0 := h1 0 (by omega)
      simp only [psm_zero] at h0
      exact ⟨by omega, fun k hk => by have := h1 (k + 1) (by omega); omega, by omega⟩
theorem pad_desc {a : List Int} (h : Pa a) : Desc (pad a) := by
  unfold pad Desc
  rw [List.pairwise_append]
  refine ⟨h.desc, ?_, fun x hx y hy => ?_⟩
  · rw [List.pairwise_replicate]; exact .inr (Int.le_refl _)
  · rw [List.eq_of_mem_replicate hy]
    have := h.pos x hx
    omega
theorem domB_iff {d b : List Int} (hd : Pa d) (hb : Pa b) : domB d b = true ↔ Maj (pad d) (pad b) := by
  have l1 := pad_len hd.len
  have l2 := pad_len hb.len
  unfold domB
  rw [domP_iff _ _ _ (by omega), Maj_desc (pad_desc hd) (pad_desc hb)]
  constructor
  · rintro ⟨h1, h2⟩
    refine ⟨fun k => ?_, by omega⟩
    cases k with
    | zero => simp [psm_zero]
    | succ k =>
      by_cases hk : k < 12
      · have := h1 k (by omega); omega
      · rw [psm_all (by omega), psm_all (by omega)]; omega
  · rintro ⟨h1, h2⟩
    exact ⟨fun k _ => by have := h1 (k + 1); omega, by omega⟩
theorem between_f {b d : List Int} (hb : Pa b) (hd : Pa d) (k : Nat) (hk : 60 < k) : shares_Below_1.f k d b = some (pB b d) := by
  unfold shares_Below_1.f
  rw [Equal_f b d (by have := hb.len; omega) k (by have := hb.len; omega), Option.bind_some]
  by_cases e : b = d
  · rw [dc_true e, if_pos rfl]
    simp [pB, e]
  · rw [dc_false e, if_neg (by decide), padded_f hd.len, padded_f hb.len]
    simp only [Option.bind_some]
    rw [uneven_f (pad_sm hd) (pad_sm hb) (by rw [pad_len hd.len]; omega) (by rw [pad_len hd.len]; omega) (by rw [pad_len hd.len, pad_len hb.len]) k (by omega), Option.bind_some]
    have h1 : (b != d) = true := by simp [e]
    unfold pB
    rw [h1, Bool.true_and]
    congr 1
    cases hq : domB d b with
    | true => exact dc_true ((domB_iff hd hb).mp hq)
    | false => exact dc_false (fun hm => by rw [(domB_iff hd hb).mpr hm] at hq; cases hq)
theorem pa_in {a : List Int} (h : Pa a) : ∃ n, n < 12 ∧ a.sum = ((n + 1 : Nat) : Int) ∧ a ∈ allG 12 (n + 1) 12 := by
  have h1 := h.s1
  have h2 := h.s12
  refine ⟨a.sum.toNat - 1, by omega, by omega, ?_⟩
  rw [mem_all 12 _ _ (by omega)]
  exact ⟨h.pt, by omega, fun x hx => by have := h.le x hx; omega⟩
theorem chk_of {a : List Int} (h : Pa a) : chkB a = true := by
  obtain ⟨n, hn, _, hm⟩ := pa_in h
  have := List.all_eq_true.mp chk_all n (List.mem_range.mpr hn)
  exact List.all_eq_true.mp this a hm
theorem same_of {a : List Int} (h : Pa a) : belowU a = rbelowU a.sum.toNat a := by
  obtain ⟨n, hn, hs, hm⟩ := pa_in h
  have := List.all_eq_true.mp same_all n (List.mem_range.mpr hn)
  have := List.all_eq_true.mp this a hm
  rw [show a.sum.toNat = n + 1 by omega]
  exact eq_of_beq this
theorem strict_pw : ∀ {l : List (List Int)}, strictB l = true → l.Pairwise (fun x y => 0 < cmpL x y)
  | [], _ => List.Pairwise.nil
  | [x], _ => by simp
  | x :: y :: r, h => by
    rw [strictB, Bool.and_eq_true, decide_eq_true_eq] at h
    have ih := strict_pw h.2
    refine List.pairwise_cons.mpr ⟨fun z hz => ?_, ih⟩
    rcases List.mem_cons.mp hz with rfl | hz
    · exact h.1
    · have h2 := (List.pairwise_cons.mp ih).1 z hz
      have a1 := cmpL_anti x y
      have a2 := cmpL_anti y z
      have a3 := cmpL_anti x z
      have := (cmpL_le_trans (a := z) (b := y) (c := x) (by omega) (by omega)).2 (.inl (by omega))
      omega
end Go.Proofs.Ytefmafbbnkkpjaa.Pure
