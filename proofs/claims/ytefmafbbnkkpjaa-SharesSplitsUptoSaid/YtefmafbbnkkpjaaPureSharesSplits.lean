/- SharesSplits: Split takes mixtures apart, and CheckSplit takes a split, just where the reference says so; or the documented error. -/
import Derived.Test.YtefmafbbnkkpjaaXf12
import Derived.Test.YtefmafbbnkkpjaaPureSharesParted
import Derived.Test.YtefmafbbnkkpjaaST
namespace Go.Proofs.Ytefmafbbnkkpjaa.Pure
set_option linter.unusedVariables false
set_option linter.unusedSimpArgs false
open Go Go.RowKit Go.Proofs.Ytefmafbbnkkpjaa.X Go.Proofs.YtefmafbbnkkpjaaW.PrintWords Go.Proofs.YtefmafbbnkkpjaaW.PrintLast

theorem Mx.one {n : Nat} {m : List (List S62)} {D D' : Int} {a : Int} (h : Mx a n m D) (h' : Mx a n m D') : D = D' := by rw [← h.mul, ← h'.mul]
theorem cpT_split {n : Nat} (hn : n ≤ 5) {L0 : Nat → Nat → Int} {D : Int} {p : List (List Int)} {w : List S62} : SplitOf n L0 D (cpT p) (w.take 103) ↔ SplitOf n L0 D p w := by
  have key : ∀ (q : List Int), PermOf n (q.take 15) ∨ PermOf n q → q.take 15 = q := fun q h => by
    rcases h with h | h
    · have := h.len
      rw [List.length_take] at this
      exact List.take_of_length_le (by omega)
    · have := h.len
      exact List.take_of_length_le (by omega)
  have hcp : p.length ≤ 100 → (∀ q ∈ p, q.take 15 = q) → cpT p = p := fun h1 h2 => by
    unfold cpT
    rw [List.take_of_length_le (by omega)]
    conv => { rhs; rw [← List.map_id p] }
    exact List.map_congr_left h2
  have hcl : (cpT p).length = min 103 p.length := by simp [cpT]
  constructor
  · intro h
    have h1 := h.len
    have h2 := h.h100
    rw [hcl] at h1 h2
    rw [List.length_take] at h1
    have e1 : cpT p = p := hcp (by omega) fun q hq => key q (.inl (h.perm _ (by
      unfold cpT
      rw [List.take_of_length_le (by omega)]
      exact List.mem_map.mpr ⟨q, hq, rfl⟩)))
    have e2 : w.take 103 = w := List.take_of_length_le (by omega)
    rw [e1, e2] at h
    exact h
  · intro h
    have h1 := h.len
    have h2 := h.h100
    have e1 : cpT p = p := hcp h2 fun q hq => key q (.inr (h.perm _ hq))
    have e2 : w.take 103 = w := List.take_of_length_le (by omega)
    rw [e1, e2]
    exact h
theorem SharesSplits (l0 : List (List (S62))) (l1 : List (List Int)) (l2 : List (S62)) (h1_ : (∀ x ∈ l0, (x.length ≤ maxLen ∧ ∀ x5_ ∈ x, ((Lit.int .i64 x5_.f0).wf = true ∧ (Lit.int .i64 x5_.f1).wf = true)))) (h5_ : (∀ x ∈ l2, ((Lit.int .i64 x.f0).wf = true ∧ (Lit.int .i64 x.f1).wf = true)))
    (hB0 : l0.length ≤ 1048576) (hB1 : l0.flatten.length ≤ 1048576) (hB2 : l1.length ≤ 1048576) (hB3 : ∀ q ∈ l1, q.length ≤ 1048576) (hB4 : l2.length ≤ 1048576) : ∃ k, congoulaw01_SharesSplits.f k l0 l1 l2 = some true := by
  have hb := b64_of h1_
  have hb2 : ∀ f ∈ l2, B64 f := fun f hf => by
    have h := h5_ f hf
    have a := (wf_i64 _).mp h.1
    have b := (wf_i64 _).mp h.2
    exact ⟨a.1, a.2, b.1, b.2⟩
  have hcm := cpM_B64 hb
  have hc9 : (cpM l0).length ≤ 9 := by rw [cpM_len]; omega
  have hct : ∀ q ∈ cpT l1, q.length ≤ 1000 := fun q hq => by
    unfold cpT at hq
    obtain ⟨r, _, rfl⟩ := List.mem_map.mp hq
    rw [List.length_take]; omega
  have hw103 : (l2.take 103).length ≤ 1000 := by rw [List.length_take]; omega
  have hwb : ∀ f ∈ l2.take 103, B64 f := fun f hf => hb2 f (List.mem_of_mem_take hf)
  obtain ⟨K, hK⟩ : ∃ K : Nat, K = 2200000 + KG + 1000000000000000000000 := ⟨_, rfl⟩
  refine ⟨K + 1, ?_⟩
  unfold congoulaw01_SharesSplits.f
  have aw := awake_f K (by omega)
  have hch := CheckSplit_f (cpM l0) hc9 (fun r hr => (cpM_at hr).1) hcm (cpT l1) hct (l2.take 103) hw103 hwb (K + 1) (by omega)
  rw [matrix_f l0 (by omega) _ (by omega), Option.bind_some]
  rcases Split_f (cpM l0) hc9 (fun r hr => (cpM_at hr).1) hcm (K + 1) (by omega) with ⟨h1, h5, D, l', all, xs, hM, e, hs⟩ | ⟨hn, e⟩
  · have hsm := cpM_small h5 hM
    rw [hsm] at hM h1 h5 hs e hch
    obtain ⟨d1, d2, hT⟩ := mul_Th (by decide) hM.mul hM.ne
    have hsp := split_of h1 h5 d1 d2 hs
    have h25 := sq_le h5
    have hpos := hs.pos
    have hal := hs.al
    obtain ⟨R, eR, r1, r2⟩ := Mixture_f 10000 (by decide) (by decide) l0 l0.length (by omega) (by omega) (by omega) hb (K + 1) (by omega)
    obtain rfl := r2 D hM
    rcases hch with ⟨_, _, D', hM', e2⟩ | ⟨hn, _⟩
    · obtain rfl : R = D' := hM.one hM'
      have s1 := Splits_f hM h1 h5 all (by omega) (fun q hq => by have := (hs.perm q hq).len; omega) (xs.map (fr R)) (fun f hf => by
        obtain ⟨x, hx, rfl⟩ := List.mem_map.mp hf
        have := hs.xs1 x hx
        obtain ⟨a, b, _, c⟩ := fr_ok (most := 10000) this.1 this.2 (by omega)
        have a1 := a.d1
        have a2 := a.dm
        have a3 := a.n0
        have a4 := a.ns rfl
        exact ⟨by omega, by omega, by omega, by omega⟩) hb (by rw [List.length_map]; omega) K (by omega)
      have s2 := Splits_f hM h1 h5 l1 (by omega) (fun q hq => by have := hB3 q hq; omega) l2 hb2 hb (by omega) K (by omega)
      rw [hsm, e, Option.bind_some]
      dsimp only
      rw [Option.bind_some, table_f l1 (by omega) (fun q hq => by have := hB3 q hq; omega) _ (by omega), Option.bind_some, fracs_f, Option.bind_some, e2, Option.bind_some, if_neg (by omega), if_neg (by omega), eR, Option.bind_some]
      dsimp only
      rw [show (R == 0) = false from beq_eq_false_iff_ne.mpr hM.ne, congoulaw01_SharesSplits.j0, if_neg (by decide), if_pos rfl, s1, Option.bind_some, dc_true hsp, if_pos rfl, if_pos rfl, aw, Option.bind_some, if_pos rfl, s2, Option.bind_some, dc_congr (cpT_split h5)]
      simp
    · exact absurd ⟨h1, h5, _, hM⟩ hn
  · rcases hch with ⟨a1, a2, D', hM', _⟩ | ⟨_, e2⟩
    · exact absurd ⟨a1, a2, D', hM'⟩ hn
    · have hfin : congoulaw01_SharesSplits.j0 (K + 1) l0 l1 l2 [] [] 2 false 2 true = some true := by
        rw [congoulaw01_SharesSplits.j0, if_pos rfl, if_pos (show wrap64 ((([] : List (List Int)).length : Int) + (([] : List S62).length : Int)) = 0 from w6 (i := 0) (by decide) (by decide)), if_neg (by decide), if_pos rfl, if_pos rfl, aw]
        rfl
      rw [e, Option.bind_some]
      dsimp only
      rw [Option.bind_some, table_f l1 (by omega) (fun q hq => by have := hB3 q hq; omega) _ (by omega), Option.bind_some, fracs_f, Option.bind_some, e2, Option.bind_some]
      dsimp only
      by_cases c1 : (l0.length : Int) < 1
      · rw [if_pos c1]; exact hfin
      · rw [if_neg c1]
        by_cases c2 : (l0.length : Int) > 5
        · rw [if_pos c2]; exact hfin
        · rw [if_neg c2]
          obtain ⟨R, eR, r1, r2⟩ := Mixture_f 10000 (by decide) (by decide) l0 l0.length (by omega) (by omega) (by omega) hb (K + 1) (by omega)
          rw [eR, Option.bind_some]
          have hR : R = 0 := Classical.byContradiction fun h => by
            have hM := r1 h
            have e3 : cpM l0 = l0 := cpM_same (by omega) fun r hr => by have := hM.sq r hr; omega
            rw [e3] at hn
            exact hn ⟨by omega, by omega, R, hM⟩
          rw [hR]
          exact hfin
end Go.Proofs.Ytefmafbbnkkpjaa.Pure
