/- SharesMixes: Mix returns a mixture that makes y out of x, where there is one, and CheckMix tells whether a matrix is such a one; or the documented error. -/
import Derived.Test.YtefmafbbnkkpjaaXf15
import Derived.Test.YtefmafbbnkkpjaaSXm
import Derived.Test.YtefmafbbnkkpjaaPureSharesParted
namespace Go.Proofs.Ytefmafbbnkkpjaa.Pure
set_option linter.unusedVariables false
set_option linter.unusedSimpArgs false
open Go Go.RowKit Go.Proofs.Ytefmafbbnkkpjaa.X Go.Proofs.YtefmafbbnkkpjaaW.PrintWords Go.Proofs.YtefmafbbnkkpjaaW.PrintLast

theorem flat_sq : ∀ (m : List (List S62)) (n : Nat), (∀ r ∈ m, r.length = n) → m.flatten.length = m.length * n
  | [], n, _ => by simp
  | r :: m, n, h => by
    rw [List.flatten_cons, List.length_append, flat_sq m n fun s hs => h s (List.mem_cons_of_mem _ hs), h r List.mem_cons_self, List.length_cons, Nat.succ_mul]; omega
theorem FMI.b64 {n : Nat} {D : Int} {m : List (List S62)} {L : Nat → Nat → Int} (h : FM n D m L) (hD : 1 ≤ D) (hD2 : D ≤ 10000000) : ∀ r ∈ m, ∀ f ∈ r, B64 f := fun r hr f hf => by
  obtain ⟨i, hi, rfl⟩ := mem_rd5 hr
  obtain ⟨j, hj, rfl⟩ := List.getElem_of_mem hf
  have hrl := h.sq _ hr
  rw [h.len] at hi
  have e1 := h.el i hi j (by omega)
  have b := h.bd i hi j (by omega)
  have e : (rd_L5 m (i : Int))[j] = Pure.el m i j := by
    unfold Pure.el rd_T62
    rw [List.getD_eq_getElem?_getD, Int.toNat_natCast, List.getElem?_eq_getElem hj]; rfl
  obtain ⟨l, _, l3, l4⟩ := fr_low hD b.1
  rw [e, e1]
  have := l.d1
  have := l.n0
  exact ⟨by omega, by omega, by omega, by omega⟩
theorem cpM_small8 {m : List (List S62)} {D a : Int} {n : Nat} (h5 : n ≤ 8) (h : Mx a n (cpM m) D) : cpM m = m := by
  have hl := h.len
  rw [cpM_len] at hl
  have hl9 : m.length ≤ 9 := by omega
  refine cpM_same hl9 fun r hr => ?_
  have hm : r.take 9 ∈ cpM m := by
    unfold cpM
    rw [List.take_of_length_le hl9]
    exact List.mem_map.mpr ⟨r, hr, rfl⟩
  have := h.sq _ hm
  rw [List.length_take] at this
  omega
theorem isMix_cp {x y : List Int} (h6 : x.length ≤ 6) {m : List (List S62)} : IsMix x y (cpM m) ↔ IsMix x y m := by
  constructor
  · rintro ⟨D, hM, hk⟩
    have e := cpM_small8 (n := x.length) (by omega) hM
    rw [e] at hM hk
    exact ⟨D, hM, hk⟩
  · rintro ⟨D, hM, hk⟩
    have e : cpM m = m := cpM_same (by have := hM.len; omega) fun r hr => by have := hM.sq r hr; omega
    exact ⟨D, by rw [e]; exact hM, by rw [e]; exact hk⟩
theorem SharesMixes (l0 : List Int) (l1 : List Int) (l2 : List (List (S62))) (h0 : l0.length ≤ 9223372036854775807) (h1 : l1.length ≤ 9223372036854775807) (h5_ : (∀ x ∈ l2, (x.length ≤ maxLen ∧ ∀ x1_ ∈ x, ((Lit.int .i64 x1_.f0).wf = true ∧ (Lit.int .i64 x1_.f1).wf = true)))) (hB0 : l2.length ≤ 1048576) (hB1 : l2.flatten.length ≤ 1048576) : ∃ k, congoulaw01_SharesMixes.f k l0 l1 l2 = some true := by
  have hb := b64_of h5_
  obtain ⟨K, hK⟩ : ∃ K : Nat, K = 3000000 + KG + l0.length + l1.length + 10000000 := ⟨_, rfl⟩
  refine ⟨K + 1, ?_⟩
  unfold congoulaw01_SharesMixes.f
  have aw := awake_f K (by omega)
  have awk := awake_f (K + 1) (by omega)
  rw [list_f l0 h0, Option.bind_some, list_f l1 h1, Option.bind_some]
  have hC := CheckMix_f (l0.take 15) (l1.take 15) (take15 _) (take15 _) (cpM l2) (by rw [cpM_len]; omega) (fun r hr => (cpM_at hr).1) (cpM_B64 hb) (K + 1) (by omega)
  rcases Mix_f (l0.take 15) (l1.take 15) (take15 _) (take15 _) (K + 1) (by omega) with ⟨hn, e⟩ | ⟨hT, hM, e⟩ | ⟨hT, hM, m, D, L, e, hI, d1, d2⟩
  · have hn2 : ¬ Two l0 l1 := fun h => hn (two_take.mpr h)
    rw [dc_false hn, if_neg (by decide)] at hC
    rw [e, Option.bind_some, Option.bind_some, Option.bind_some, matrix_f l2 (by omega) _ (by omega), Option.bind_some, hC, Option.bind_some, two_f l0 l1 h0 h1 _ (by omega) (by omega), Option.bind_some, dc_false hn2, if_neg (by decide)]
    dsimp only
    rw [if_pos (show (([] : List (List S62)).length : Int) = 0 from rfl), if_neg (by decide), if_pos rfl, if_pos rfl, awk]
    rfl
  · have hT2 := two_take.mp hT
    have e0 := sh_same hT2.1
    have e1 := sh_same hT2.2.1
    have h6 := hT2.1.h6
    rw [e0, e1] at hC e hM
    rw [dc_true hT2, if_pos rfl] at hC
    have hRM := Mixes_f hT2 l2 (by omega) (by omega) hb K (by omega)
    rw [e0, e1, e, Option.bind_some, Option.bind_some, Option.bind_some, matrix_f l2 (by omega) _ (by omega), Option.bind_some, hC, Option.bind_some, two_f l0 l1 h0 h1 _ (by omega) (by omega), Option.bind_some, dc_true hT2, if_pos rfl, runeven_f (sm_of_sh hT2.1) (sm_of_sh hT2.2.1) _ (by omega), Option.bind_some, dc_false hM, if_neg (by decide)]
    dsimp only
    rw [if_pos (show (([] : List (List S62)).length : Int) = 0 from rfl), show ((4 : Int) != 4) = false from rfl, congoulaw01_SharesMixes.j1, if_neg (by decide), if_pos rfl, hRM, Option.bind_some, dc_congr (isMix_cp h6), if_pos (by simp), aw]
    rfl
  · have hT2 := two_take.mp hT
    have e0 := sh_same hT2.1
    have e1 := sh_same hT2.2.1
    have h6 := hT2.1.h6
    rw [e0, e1] at hC e hM hI
    rw [dc_true hT2, if_pos rfl] at hC
    have hRM := Mixes_f hT2 l2 (by omega) (by omega) hb K (by omega)
    have hml := hI.len
    have hfl := flat_sq m l0.length hI.sq
    rw [hml] at hfl
    have h36 : l0.length * l0.length ≤ 36 := Nat.mul_le_mul h6 h6
    have hR1 := Mixes_f hT2 m (by omega) (by omega) (FMI.b64 hI.toFM d1 d2) (K + 1) (by omega)
    have hgood : IsMix l0 l1 m := hI.mx hT2.1.h1 d1 d2
    rw [e0, e1, e, Option.bind_some, Option.bind_some, Option.bind_some, matrix_f l2 (by omega) _ (by omega), Option.bind_some, hC, Option.bind_some, two_f l0 l1 h0 h1 _ (by omega) (by omega), Option.bind_some, dc_true hT2, if_pos rfl, runeven_f (sm_of_sh hT2.1) (sm_of_sh hT2.2.1) _ (by omega), Option.bind_some, dc_true hM, if_pos rfl]
    dsimp only
    rw [if_pos rfl, hR1, Option.bind_some, dc_true hgood, show (!true) = false from rfl, congoulaw01_SharesMixes.j0, if_neg (by decide), if_pos rfl, hRM, Option.bind_some, dc_congr (isMix_cp h6), if_pos (by simp), aw]
    rfl
end Go.Proofs.Ytefmafbbnkkpjaa.Pure
