/- SharesParted: Split takes a mixture apart into permutations that stand where it is above 0, and CheckSplit takes the parts; or the documented error. -/
import Derived.Test.YtefmafbbnkkpjaaXf13
import Derived.Test.YtefmafbbnkkpjaaSX
namespace Go.Proofs.Ytefmafbbnkkpjaa.Pure
set_option linter.unusedVariables false
set_option linter.unusedSimpArgs false
open Go Go.RowKit Go.Proofs.Ytefmafbbnkkpjaa.X Go.Proofs.YtefmafbbnkkpjaaW.PrintWords Go.Proofs.YtefmafbbnkkpjaaW.PrintLast

theorem wf_i64 (x : Int) : (Lit.int .i64 x).wf = true ↔ -9223372036854775808 ≤ x ∧ x ≤ 9223372036854775807 := by
  unfold Lit.wf
  rw [Bool.and_eq_true, decide_eq_true_eq, decide_eq_true_eq]
  exact Iff.rfl
theorem b64_of {l0 : List (List S62)} (h1_ : (∀ x ∈ l0, (x.length ≤ maxLen ∧ ∀ x5_ ∈ x, ((Lit.int .i64 x5_.f0).wf = true ∧ (Lit.int .i64 x5_.f1).wf = true)))) : ∀ r ∈ l0, ∀ f ∈ r, B64 f := fun r hr f hf => by
  have h := (h1_ r hr).2 f hf
  have a := (wf_i64 _).mp h.1
  have b := (wf_i64 _).mp h.2
  exact ⟨a.1, a.2, b.1, b.2⟩
theorem part_l1 {D : Int} {n : Nat} {m : List (List S62)} (hM : Mx 10000 n m D) (hn : n ≤ 5) (P : List (List Int)) (hP : P.length ≤ 100) (q : List Int) (hq : PermOf n q) (hup : ∀ i : Nat, i < n → 0 < mxv D m i (rd q (i : Int)).toNat) (r : Nat) (hr : r < 100) :
    ∀ (c i k : Nat), i + c = n → congoulaw01_SharesParted.l1 (c + 1 + k) m P (P.length : Int) (r : Int) q (q.length : Int) (i : Int) = congoulaw01_SharesParted.l0 k m P (P.length : Int) ((r : Int) + 1) := by
  obtain ⟨d1, d2, hT⟩ := mul_Th (by decide) hM.mul hM.ne
  intro c
  have hql := hq.len
  have hml := hM.len
  induction c with
  | zero =>
    intro i k hi
    rw [show 0 + 1 + k = k + 1 by omega, congoulaw01_SharesParted.l1, if_neg (by omega), w6 (by omega) (by omega)]
  | succ c ih =>
    intro i k hi
    have hin : i < n := by omega
    have hx := hq.rng _ (List.mem_of_mem_drop (rdI_drop (by rw [hq.len]; exact hin) ▸ List.mem_cons_self))
    have hrow := hM.sq _ (rdM_mem (show i < m.length by omega))
    have hu := hup i hin
    obtain ⟨x, hxe⟩ : ∃ x : Nat, rd q (i : Int) = (x : Int) := ⟨(rd q (i : Int)).toNat, by omega⟩
    rw [hxe] at hx hu
    rw [Int.toNat_natCast] at hu
    have hth := (hT _ (rdM_mem (show i < m.length by omega)) _ (rd_mem (c := x) (by rw [hrow]; omega))).2
    have hf : ¬ (rd_T62 (rd_L5 m (i : Int)) (x : Int)).f0 < 1 := by
      intro h
      have h0 := hth.n0
      have e : (rd_T62 (rd_L5 m (i : Int)) (x : Int)).f0 = 0 := by omega
      unfold mxv el val at hu
      rw [e, Int.zero_mul] at hu
      omega
    rw [show c + 1 + 1 + k = (c + 1 + k) + 1 by omega, congoulaw01_SharesParted.l1, if_pos (by omega), if_pos (by omega), if_pos (by omega), if_neg (by omega), hxe, if_neg (by omega), if_pos (by omega), if_neg (by rw [hrow]; omega), if_pos (by omega), if_pos (by rw [hrow]; omega), if_neg hf, w6 (by omega) (by omega), show (i : Int) + 1 = ((i + 1 : Nat) : Int) by omega]
    exact ih (i + 1) k (by omega)
theorem part_l0 {D : Int} {n : Nat} {m : List (List S62)} (hM : Mx 10000 n m D) (hn : n ≤ 5) (P : List (List Int)) (hP : P.length ≤ 100) (hp : ∀ q ∈ P, PermOf n q) (hup : ∀ q ∈ P, ∀ i : Nat, i < n → 0 < mxv D m i (rd q (i : Int)).toNat) :
    ∀ (c r k : Nat), r + c = P.length → congoulaw01_SharesParted.l0 (c * 7 + 100 + k) m P (P.length : Int) (r : Int) = some true := by
  intro c
  induction c with
  | zero =>
    intro r k hr
    rw [show 0 * 7 + 100 + k = (99 + k) + 1 by omega, congoulaw01_SharesParted.l0, if_neg (by omega), awake_f _ (by omega)]
    rfl
  | succ c ih =>
    intro r k hr
    have hm := rdL_mem (l := P) (i := r) (by omega)
    have := part_l1 hM hn P hP _ (hp _ hm) (hup _ hm) r (by omega) n 0 (c * 7 + 100 + (5 - n + k)) (by omega)
    rw [show (c + 1) * 7 + 100 + k = (n + 1 + (c * 7 + 100 + (5 - n + k))) + 1 by omega, congoulaw01_SharesParted.l0, if_pos (by omega), if_pos (by omega), if_pos (by omega)]
    refine Eq.trans this ?_
    rw [show (r : Int) + 1 = ((r + 1 : Nat) : Int) by omega]
    exact ih (r + 1) _ (by omega)
theorem cpM_B64 {m : List (List S62)} (h : ∀ r ∈ m, ∀ f ∈ r, B64 f) : ∀ r ∈ cpM m, ∀ f ∈ r, B64 f := fun r hr f hf => by
  obtain ⟨_, s, hs, rfl⟩ := cpM_at hr
  exact h s hs f (List.mem_of_mem_take hf)
theorem cpM_small {m : List (List S62)} {D : Int} {n : Nat} (h5 : n ≤ 5) (h : Mx 10000 n (cpM m) D) : cpM m = m := by
  have hl := h.len
  rw [cpM_len] at hl
  have hl9 : m.length ≤ 9 := by omega
  refine cpM_same hl9 fun r hr => ?_
  have hm : r.take 9 ∈ cpM m := by
    unfold cpM
    rw [List.take_of_length_le hl9]
    exact List.mem_map.mpr ⟨r, hr, rfl⟩
  have := h.sq _ hm
  rw [List.length_take] at this
  omega
theorem SharesParted (l0 : List (List (S62))) (h0_ : l0.length ≤ maxLen) (h1_ : (∀ x ∈ l0, (x.length ≤ maxLen ∧ ∀ x5_ ∈ x, ((Lit.int .i64 x5_.f0).wf = true ∧ (Lit.int .i64 x5_.f1).wf = true)))) : ∃ k, congoulaw01_SharesParted.f k l0 = some true := by
  have h0 : l0.length ≤ 9223372036854775807 := by unfold maxLen at h0_; exact h0_
  have hb := b64_of h1_
  obtain ⟨K, hK⟩ : ∃ K : Nat, K = 2200000 + KG + 100000000000000000000 := ⟨_, rfl⟩
  refine ⟨K + 1 + 1 + 1, ?_⟩
  unfold congoulaw01_SharesParted.f
  rw [matrix_f l0 h0 _ (by omega), Option.bind_some]
  have aw := awake_f (K + 1 + 1) (by omega)
  rcases Split_f (cpM l0) (by rw [cpM_len]; omega) (fun r hr => (cpM_at hr).1) (cpM_B64 hb) (K + 1 + 1 + 1) (by omega) with ⟨h1, h5, D, l', all, xs, hM, e, hs⟩ | ⟨_, e⟩
  · have hsm := cpM_small h5 hM
    rw [hsm] at hM h1 h5 hs e
    obtain ⟨d1, d2, hT⟩ := mul_Th (by decide) hM.mul hM.ne
    have hsp := split_of h1 h5 d1 d2 hs
    have h25 := sq_le h5
    have hpos := hs.pos
    have hal := hs.al
    rw [hsm, e, Option.bind_some]
    dsimp only
    have hcp : cpT all = all := by
      unfold cpT
      rw [List.take_of_length_le (by omega)]
      conv => { rhs; rw [← List.map_id all] }
      refine List.map_congr_left fun q hq => ?_
      have := (hs.perm q hq).len
      exact List.take_of_length_le (by omega)
    rw [if_pos rfl, decide_eq_false (by omega), congoulaw01_SharesParted.j0, if_neg (by decide), if_pos (by rw [List.length_map]; omega), decide_eq_false (by omega), congoulaw01_SharesParted.j1, if_neg (by decide), matrix_f l0 h0 _ (by omega), Option.bind_some, hsm, table_f all (by omega) (fun q hq => by have := (hs.perm q hq).len; omega) _ (by omega), Option.bind_some, clone62_f _ (by rw [List.length_map]; omega), Option.bind_some, hcp]
    rcases CheckSplit_f l0 (by omega) (fun r hr => by have := hM.sq r hr; omega) hb all (fun q hq => by have := (hs.perm q hq).len; omega) (xs.map (fr D)) (by rw [List.length_map]; omega) (fun f hf => by
      obtain ⟨x, hx, rfl⟩ := List.mem_map.mp hf
      have := hs.xs1 x hx
      obtain ⟨a, b, _, c⟩ := fr_ok (most := 10000) this.1 this.2 (by omega)
      have a1 := a.d1
      have a2 := a.dm
      have a3 := a.n0
      have a4 := a.ns rfl
      exact ⟨by omega, by omega, by omega, by omega⟩) (K + 1) (by omega) with ⟨_, _, D', hM', e2⟩ | ⟨hn, _⟩
    · obtain rfl : D' = D := by rw [← hM'.mul, hM.mul]
      rw [e2, dc_true hsp, Option.bind_some]
      dsimp only
      rw [if_pos rfl, show ((0 : Int) != 0) = false from rfl, congoulaw01_SharesParted.j2, if_neg (by decide)]
      have := part_l0 hM h5 all (by omega) hs.perm hs.up all.length 0 (K - (all.length * 7 + 100)) (by omega)
      rw [show all.length * 7 + 100 + (K - (all.length * 7 + 100)) = K by omega] at this
      exact this
    · exact absurd ⟨h1, h5, D, hM⟩ hn
  · rw [e, Option.bind_some]
    dsimp only
    rw [if_neg (by decide), congoulaw01_SharesParted.j0, if_pos rfl, if_pos rfl, aw]
    rfl
end Go.Proofs.Ytefmafbbnkkpjaa.Pure
