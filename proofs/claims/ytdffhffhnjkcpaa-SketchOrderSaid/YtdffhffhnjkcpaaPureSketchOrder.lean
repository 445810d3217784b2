/- SketchOrder: a table and what is heavy do not depend on the order of the stream. -/
import Derived.Test.YtdffhffhnjkcpaaXf8
import Derived.Test.YtdffhffhnjkcpaaS4
namespace Go.Proofs.Ytdffhffhnjkcpaa.Pure
set_option linter.unusedVariables false
set_option linter.unusedSimpArgs false
open Go.RowKit Go.Proofs.Ytdffhffhnjkcpaa.X Go.Proofs.YtdffhffhnjkcpaaW.PrintWords Go.Proofs.YtdffhffhnjkcpaaW.PrintLast

theorem u64_wrap (x : Int) : IntKind.u64.wrap x = x % 18446744073709551616 := by
  simp [IntKind.wrap, IntKind.bits, IntKind.signed]
theorem u64_nonneg (x : Int) : 0 ≤ IntKind.u64.wrap x := by
  rw [u64_wrap]
  omega
theorem u64_small (x : Int) (h : 0 ≤ x) (h2 : x < 100) : IntKind.u64.wrap x = x := by
  rw [u64_wrap]
  omega
theorem perm_streamB {a b : List Int} (h : a.Perm b) : streamB a = streamB b := by
  rw [Bool.eq_iff_iff, streamB_iff, streamB_iff, h.length_eq]
  exact ⟨fun ⟨h1, h2⟩ => ⟨h1, fun x hx => h2 x (h.mem_iff.mpr hx)⟩, fun ⟨h1, h2⟩ => ⟨h1, fun x hx => h2 x (h.mem_iff.mp hx)⟩⟩
theorem perm_tabC {a b : List Int} (h : a.Perm b) (w : Int) (n : Nat) : tabC w a n = tabC w b n := by
  unfold tabC rowC
  apply List.map_congr_left
  intro r _
  apply List.map_congr_left
  intro c _
  unfold hit
  rw [h.countP_eq]
theorem perm_heavyU {a b : List Int} (h : a.Perm b) (k : Int) (i : Nat) : heavyU k a i = heavyU k b i := by
  unfold heavyU
  have : heavyP k a = heavyP k b := by
    funext key
    unfold heavyP cnt
    rw [h.length_eq, h.countP_eq]
  rw [this]
theorem Order_l (a0 a1 a2 : Int) (s by_ : List Int) (hs : streamB s = true) (hb : by_.length ≤ 60) (m : Nat) : ∀ (k i : Nat) (o : List Int), o.Perm s → i + m = by_.length → m + 400 < k →
    congoulaw03_SketchOrder.l0 k a0 a1 a2 s o by_ (by_.length : Int) (i : Int) = some true := by
  have hl := ((streamB_iff s).mp hs).1
  induction m with
  | zero =>
    intro k i o ho hi hk
    obtain ⟨k, rfl⟩ : ∃ m, k = m + 1 := ⟨k - 1, by omega⟩
    have hlo := ho.length_eq
    have hso : streamB o = true := by rw [perm_streamB ho, hs]
    simp only [congoulaw03_SketchOrder.l0]
    rw [if_neg (by omega), list_f s (by omega), list_f o (by omega), take_of_stream s hs, take_of_stream o hso]
    simp only [Option.bind_some]
    rw [Table_f a0 a1 s _ (by omega), Table_f a0 a1 o _ (by omega)]
    simp only [Option.bind_some, xHeavy.f, hs, hso, perm_tabC ho, perm_heavyU ho, if_true]
    have he : congoulaw03_equal.f k (if sizeB a0 a1 = true ∧ True then (tabC a1 s a0.toNat, (0 : Int)) else ([], 2)).1 (if sizeB a0 a1 = true ∧ True then (tabC a1 s a0.toNat, (0 : Int)) else ([], 2)).1 = some true := by
      cases hz : sizeB a0 a1 with
      | false =>
        rw [if_neg (by simp)]
        rw [equal_f [] [] 1 (by simp) (by omega) (by simp) k (by simp; omega)]
        simp
      | true =>
        have h : 1 ≤ a0 ∧ a0 ≤ 4 ∧ 1 ≤ a1 ∧ a1 ≤ 8 := by simpa [sizeB] using hz
        rw [if_pos ⟨rfl, trivial⟩]
        rw [equal_f _ _ 9 (tabC_rows a1 s _ h.2.2.2) (by omega) (by rw [tabC_len]; omega) k (by rw [tabC_len]; omega)]
        simp
    have hu := heavyU_len a2 s 16
    have hq : slices_Equal_int_int.f k (if kB a2 = true ∧ True then (heavyU a2 s 16, (0 : Int)) else ([], 2)).1 (if kB a2 = true ∧ True then (heavyU a2 s 16, (0 : Int)) else ([], 2)).1 = some true := by
      cases hz : kB a2 with
      | false =>
        rw [if_neg (by simp), Equal_f _ _ (by simp) k (by simp; omega)]
        simp
      | true =>
        rw [if_pos ⟨rfl, trivial⟩, Equal_f _ _ (by simp; omega) k (by simp; omega)]
        simp
    rw [he, hq]
    simp [awake_f]
  | succ m ih =>
    intro k i o ho hi hk
    obtain ⟨k, rfl⟩ : ∃ m, k = m + 1 := ⟨k - 1, by omega⟩
    have hlo := ho.length_eq
    simp only [congoulaw03_SketchOrder.l0]
    rw [if_pos (by omega), if_pos (by omega), if_pos (by omega)]
    by_cases hz : (o.length : Int) > 0
    · have hu : IntKind.u64.wrap (o.length : Int) = (o.length : Int) := u64_small _ (by omega) (by omega)
      have h1 : 0 ≤ Int.tmod (i : Int) (o.length : Int) ∧ Int.tmod (i : Int) (o.length : Int) < (o.length : Int) := by
        rw [Int.tmod_eq_emod_of_nonneg (by omega)]
        exact ⟨Int.emod_nonneg _ (by omega), Int.emod_lt_of_pos _ (by omega)⟩
      have h2 : 0 ≤ Int.tmod (IntKind.u64.wrap (rd by_ (i : Int))) (o.length : Int) ∧ Int.tmod (IntKind.u64.wrap (rd by_ (i : Int))) (o.length : Int) < (o.length : Int) := by
        rw [Int.tmod_eq_emod_of_nonneg (u64_nonneg _)]
        exact ⟨Int.emod_nonneg _ (by omega), Int.emod_lt_of_pos _ (by omega)⟩
      rw [if_pos hz, if_neg (by omega), hu, if_neg (by omega), w64 (i := Int.tmod (IntKind.u64.wrap (rd by_ (i : Int))) (o.length : Int)) (by omega) (by omega)]
      rw [if_pos h1.1, if_pos h1.2, if_pos h2.1, if_pos h2.2, w64 (i := (i : Int) + 1) (by omega) (by omega)]
      generalize Int.tmod (i : Int) (o.length : Int) = x at h1 ⊢
      generalize Int.tmod (IntKind.u64.wrap (rd by_ (i : Int))) (o.length : Int) = y at h2 ⊢
      have hx : rd o x = o[x.toNat]'(by omega) := by simp [rd, List.getD_eq_getElem?_getD, List.getElem?_eq_getElem (show x.toNat < o.length by omega)]
      have hy : rd o y = o[y.toNat]'(by omega) := by simp [rd, List.getD_eq_getElem?_getD, List.getElem?_eq_getElem (show y.toNat < o.length by omega)]
      rw [hx, hy]
      exact ih k (i + 1) _ ((List.set_set_perm (by omega) (by omega)).trans ho) (by omega) (by omega)
    · rw [if_neg hz, w64 (i := (i : Int) + 1) (by omega) (by omega)]
      exact ih k (i + 1) o ho (by omega) (by omega)
theorem SketchOrder : congoulaw03_SketchOrder.Pure := by
  intro a0 a1 a2 l3 l4 _ _ _ _ h3 _ _ h4 _
  have hlen : l3.length ≤ 17592186044416 := by omega
  refine ⟨l3.length + 1000, ?_⟩
  unfold congoulaw03_SketchOrder.f
  rw [list_f l3 hlen, Stream_f l3 hlen _ (by omega)]
  simp only [Option.bind_some]
  cases hs : streamB l3 with
  | false => simp [xHeavy.f, streamB_take, hs, awake_f]
  | true =>
    rw [if_pos rfl, take_of_stream l3 hs]
    have hm : mn (l4.length : Int) 60 = ((min l4.length 60 : Nat) : Int) := by
      unfold mn
      split <;> omega
    rw [hm, if_pos (by omega), if_pos (by omega), Int.toNat_natCast]
    have hl := ((streamB_iff l3).mp hs).1
    have hlt : (l4.take (min l4.length 60)).length ≤ 60 := by rw [List.length_take]; omega
    exact Order_l a0 a1 a2 l3 _ hs hlt (l4.take (min l4.length 60)).length (l3.length + 1000) 0 l3 (List.Perm.refl _) (by omega) (by omega)
end Go.Proofs.Ytdffhffhnjkcpaa.Pure
