/- SketchHeavy: Often returns how often a key comes, and Heavy the keys that come often, or the documented error. -/
import Derived.Test.YtdffhffhnjkcpaaXf4
import Derived.Test.YtdffhffhnjkcpaaS2
namespace Go.Proofs.Ytdffhffhnjkcpaa.Pure
set_option linter.unusedVariables false
set_option linter.unusedSimpArgs false
open Go.RowKit Go.Proofs.Ytdffhffhnjkcpaa.X Go.Proofs.YtdffhffhnjkcpaaW.PrintWords Go.Proofs.YtdffhffhnjkcpaaW.PrintLast

theorem Heavy_j1 (k : Nat) (a0 : Int) (l1 : List Int) (hs : streamB l1 = true) (hk : l1.length + 20 < k) :
    congoulaw03_SketchHeavy.j1 k a0 l1 (if kB a0 = true then heavyU a0 l1 16 else []) (if kB a0 = true then 0 else 2) = some true := by
  obtain ⟨k, rfl⟩ : ∃ m, k = m + 1 := ⟨k - 1, by omega⟩
  have hl := ((streamB_iff l1).mp hs).1
  simp only [congoulaw03_SketchHeavy.j1, Counters_f, Option.bind_some]
  cases hb : kB a0 with
  | true =>
    have hu := heavyU_len a0 l1 16
    simp only [if_true]
    rw [Heavy_f a0 l1 hb hl k (by omega)]
    simp only [Option.bind_some]
    rw [Equal_f _ _ (by omega) k (by omega)]
    simp [awake_f]
  | false => simp [awake_f]
theorem SketchHeavy : congoulaw03_SketchHeavy.Pure := by
  intro a0 l1 a2 _ _ hl _ _
  have hlen : l1.length ≤ 17592186044416 := by omega
  refine ⟨l1.length + 100, ?_⟩
  unfold congoulaw03_SketchHeavy.f
  rw [list_f l1 hlen]
  simp only [Option.bind_some, xOften.f, xHeavy.f, streamB_take]
  rw [Stream_f l1 hlen _ (by omega)]
  cases hs : streamB l1 with
  | false => simp [awake_f]
  | true =>
    have h1 := take_of_stream l1 hs
    rw [h1]
    have hj := Heavy_j1 (l1.length + 99) a0 l1 hs (by omega)
    have hj2 : ∀ x, x = (if kB a0 = true then (heavyU a0 l1 16, (0 : Int)) else ([], 2)) → congoulaw03_SketchHeavy.j1 (l1.length + 99) a0 l1 x.1 x.2 = some true := by
      rintro x rfl
      cases hb : kB a0 <;> simp [hb] at hj ⊢ <;> exact hj
    simp only [Option.bind_some, and_true, true_and, if_true]
    have hj3 := hj2 _ rfl
    by_cases hneg : a2 < 0
    · have hkey : ¬ keyB a2 = true := by simp [keyB]; omega
      rw [if_pos hneg, if_neg hkey]
      simp only [congoulaw03_SketchHeavy.j0, if_true]
      exact hj3
    · by_cases hbig : a2 > 15
      · have hkey : ¬ keyB a2 = true := by simp [keyB]; omega
        rw [if_neg hneg, if_neg hkey, decide_eq_true hbig]
        simp only [congoulaw03_SketchHeavy.j0, if_true]
        exact hj3
      · have hkey : keyB a2 = true := by simp [keyB]; omega
        rw [if_neg hneg, if_pos hkey, decide_eq_false hbig]
        have ho := Often_cnt l1 a2.toNat hlen (l1.length + 99) (by omega)
        rw [show ((a2.toNat : Nat) : Int) = a2 by omega] at ho
        simp only [congoulaw03_SketchHeavy.j0, ho, Option.bind_some, if_true]
        rw [if_neg (by decide)]
        exact hj3
end Go.Proofs.Ytdffhffhnjkcpaa.Pure
