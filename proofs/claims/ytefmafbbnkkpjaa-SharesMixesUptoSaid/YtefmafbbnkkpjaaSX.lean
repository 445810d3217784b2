/- What Split answers is a split. -/
import Derived.Test.YtefmafbbnkkpjaaSY
namespace Go.Proofs.Ytefmafbbnkkpjaa.Pure
open Go Go.RowKit Go.Proofs.Ytefmafbbnkkpjaa.X Go.Proofs.YtefmafbbnkkpjaaW.PrintWords Go.Proofs.YtefmafbbnkkpjaaW.PrintLast Go.Proofs.YtefmafbbnkkpjaaW.PrintMore
set_option linter.unusedVariables false
set_option linter.unusedSimpArgs false

/-- where all are good and divide one number, there is a multiple -/
theorem mulP_of {most : Int} {strict : Bool} {R : Int} (h1 : 1 ≤ R) (hm : R ≤ most) : ∀ (l : List S62) (d : Int), 1 ≤ d → d ∣ R → (∀ f ∈ l, OkF most strict f ∧ f.f1 ∣ R) → mulP most strict l d ≠ 0
  | [], d, hd, _, _ => by rw [show mulP most strict [] d = d from rfl]; omega
  | f :: fs, d, hd, hdR, h => by
    have hf := h f List.mem_cons_self
    have hdv := lcm_dvd' hdR hf.2
    have hle := Int.le_of_dvd (by omega) hdv
    rw [mulP_yes hf.1 (by omega)]
    exact mulP_of h1 hm fs _ (lcm_pos hd hf.1.d1) hdv fun g hg => h g (List.mem_cons_of_mem _ hg)
end Go.Proofs.Ytefmafbbnkkpjaa.Pure
