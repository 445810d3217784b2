/- SketchMerges: Merge returns what the reference's Merge makes of two lists, or the documented error. -/
import Derived.Test.YtdffhffhnjkcpaaXf11
import Derived.Test.YtdffhffhnjkcpaaS14
import Derived.Test.YtdffhffhnjkcpaaS15
import Derived.Test.YtdffhffhnjkcpaaS2
namespace Go.Proofs.Ytdffhffhnjkcpaa.Pure
set_option linter.unusedVariables false
set_option linter.unusedSimpArgs false
open Go.RowKit Go.Proofs.Ytdffhffhnjkcpaa.X Go.Proofs.YtdffhffhnjkcpaaW.PrintWords Go.Proofs.YtdffhffhnjkcpaaW.PrintLast

theorem L64_len (l : List S64) : (L64 l).length = l.length := by simp [L64]
theorem rd_L64 (l : List S64) (i : Nat) (h : i < l.length) : rd_T70 (L64 l) (i : Int) = t70 (rd_T64 l (i : Int)) := by
  rw [rd64m l i h, rd70m _ i (by rw [L64_len]; exact h)]
  simp [L64]
theorem Of_l (l : List S64) (hl : l.length ≤ maxLen) (d : Nat) : ∀ (k i : Nat), i + d = l.length → d < k →
    congoulaw03_Of.l0 k (L64 (l.take (min i 11))) l (l.length : Int) (i : Int) = some (L64 (l.take 11)) := by
  have hm : l.length ≤ 9223372036854775807 := by unfold maxLen at hl; omega
  induction d with
  | zero =>
    intro k i hi hk
    obtain ⟨k, rfl⟩ : ∃ m, k = m + 1 := ⟨k - 1, by omega⟩
    simp only [congoulaw03_Of.l0]
    rw [if_neg (by omega)]
    by_cases h : i ≤ 11
    · rw [Nat.min_eq_left h, List.take_of_length_le (by omega), List.take_of_length_le (by omega)]
    · rw [Nat.min_eq_right (by omega)]
  | succ d ih =>
    intro k i hi hk
    obtain ⟨k, rfl⟩ : ∃ m, k = m + 1 := ⟨k - 1, by omega⟩
    have hlt : i < l.length := by omega
    have hn := ih k (i + 1) (by omega) (by omega)
    simp only [congoulaw03_Of.l0]
    rw [if_pos (by omega), if_pos (by omega), if_pos (by omega), w64 (by omega) (by omega), show (i : Int) + 1 = ((i + 1 : Nat) : Int) by omega]
    by_cases h : i < 11
    · rw [if_pos (by omega), if_pos (by rw [L64_len, List.length_take]; omega), rd64m l i hlt]
      rw [Nat.min_eq_left (by omega : i + 1 ≤ 11), List.take_succ_eq_append_getElem hlt] at hn
      rw [Nat.min_eq_left (by omega : i ≤ 11)]
      have e : L64 (l.take i ++ [l[i]]) = L64 (l.take i) ++ [t70 l[i]] := by rw [L64, List.map_append, List.map_cons, List.map_nil]; rfl
      rw [e] at hn
      exact hn
    · rw [if_neg (by omega)]
      rw [Nat.min_eq_right (by omega)] at hn ⊢
      exact hn
theorem Of_f (l : List S64) (hl : l.length ≤ maxLen) (k : Nat) (hk : l.length < k) : congoulaw03_Of.f k l = some (L64 (l.take 11)) := Of_l l hl l.length k 0 (by omega) hk
theorem List_l (a : Int) (l : List S64) (hl : l.length ≤ maxLen) (d : Nat) : ∀ (k i : Nat), i + d = l.length → d < k →
    congouref03_List.l0 k a l l (l.length : Int) (i : Int) = some ((List.range' i d).all (goodC (L64 l)) && (kB a && decide ((l.length : Int) ≤ a))) := by
  have hm : l.length ≤ 9223372036854775807 := by unfold maxLen at hl; omega
  induction d with
  | zero =>
    intro k i hi hk
    obtain ⟨k, rfl⟩ : ∃ m, k = m + 1 := ⟨k - 1, by omega⟩
    simp only [congouref03_List.l0]
    rw [if_neg (by omega), Counters_f]
    cases kB a <;> simp
  | succ d ih =>
    intro k i hi hk
    obtain ⟨k, rfl⟩ : ∃ m, k = m + 1 := ⟨k - 1, by omega⟩
    have hlt : i < l.length := by omega
    have hn := ih k (i + 1) (by omega) (by omega)
    have e1 : wrap64 ((i : Int) + 1) = ((i + 1 : Nat) : Int) := by unfold wrap64; omega
    have hc := rd_L64 l i hlt
    have f0 : (rd_T70 (L64 l) (i : Int)).f0 = (rd_T64 l (i : Int)).f0 := by rw [hc]; rfl
    have f1 : (rd_T70 (L64 l) (i : Int)).f1 = (rd_T64 l (i : Int)).f1 := by rw [hc]; rfl
    have f2 : (rd_T70 (L64 l) (i : Int)).f2 = (rd_T64 l (i : Int)).f2 := by rw [hc]; rfl
    rw [congouref03_List.l0, if_pos (by omega), if_pos (by omega), if_pos (by omega), List.range'_succ, List.all_cons, e1, hn]
    unfold goodC keyB
    rw [f0, f1, f2]
    by_cases a0 : (rd_T64 l (i : Int)).f0 < 0
    · rw [if_pos a0]; simp; omega
    · rw [if_neg a0]
      by_cases a1 : (rd_T64 l (i : Int)).f0 > 15
      · rw [if_pos a1]; simp; omega
      · rw [if_neg a1]
        by_cases a2 : (rd_T64 l (i : Int)).f1 < 1
        · rw [if_pos a2]; simp; omega
        · rw [if_neg a2]
          by_cases a3 : (rd_T64 l (i : Int)).f1 > 40
          · rw [if_pos a3]; simp; omega
          · rw [if_neg a3]
            by_cases a4 : (rd_T64 l (i : Int)).f2 = 0
            · rw [if_pos a4]
              have b0 : 0 ≤ (rd_T64 l (i : Int)).f0 := by omega
              have b1 : (rd_T64 l (i : Int)).f0 < 16 := by omega
              have b2 : 1 ≤ (rd_T64 l (i : Int)).f1 := by omega
              have b3 : (rd_T64 l (i : Int)).f1 ≤ 40 := by omega
              by_cases a5 : i = 0
              · subst a5
                rw [if_neg (by simp)]
                simp only [b0, b1, b2, b3, a4, and_self, decide_true, Bool.true_or, Bool.and_true, Bool.true_and]
              · have e2 : wrap64 ((i : Int) - 1) = ((i - 1 : Nat) : Int) := by unfold wrap64; omega
                have e3 : (i : Int) - 1 = ((i - 1 : Nat) : Int) := by omega
                have g0 : (rd_T70 (L64 l) ((i : Int) - 1)).f0 = (rd_T64 l ((i - 1 : Nat) : Int)).f0 := by rw [e3, rd_L64 l (i - 1) (by omega)]; rfl
                rw [e2, if_pos (by omega : (i : Int) > 0), if_pos (by omega), if_pos (by omega), g0]
                by_cases a6 : (rd_T64 l ((i - 1 : Nat) : Int)).f0 ≥ (rd_T64 l (i : Int)).f0
                · rw [if_pos a6]
                  have : ¬ (rd_T64 l ((i - 1 : Nat) : Int)).f0 < (rd_T64 l (i : Int)).f0 := by omega
                  simp [this, a5]
                · rw [if_neg a6]
                  have : (rd_T64 l ((i - 1 : Nat) : Int)).f0 < (rd_T64 l (i : Int)).f0 := by omega
                  simp only [b0, b1, b2, b3, a4, this, and_self, decide_true, Bool.or_true, Bool.and_true, Bool.true_and]
            · rw [if_neg a4]; simp [a4]
theorem List_f (a : Int) (l : List S64) (hl : l.length ≤ maxLen) (k : Nat) (hk : l.length < k) : congouref03_List.f k a l = some (rlistB a l) := by
  have h := List_l a l hl l.length k 0 (by omega) hk
  unfold congouref03_List.f rlistB listB
  rw [L64_len, List.range_eq_range']
  rw [show ((0 : Nat) : Int) = 0 from rfl] at h
  rw [h]
  cases kB a <;> cases decide ((l.length : Int) ≤ a) <;> simp
theorem listB_take (a : Int) (l : List S64) : listB a (L64 (l.take 11)) = rlistB a l := by
  by_cases h : l.length ≤ 11
  · rw [List.take_of_length_le h]; rfl
  · unfold rlistB listB
    rw [L64_len, L64_len, List.length_take]
    cases hk : kB a with
    | false => rfl
    | true =>
      have ha : 1 ≤ a ∧ a ≤ 8 := by simpa [kB] using hk
      rw [decide_eq_false (by omega), decide_eq_false (by omega)]
      rfl
theorem mwn_mergeU (a : Int) (L : List S70) : mwnL (mergeU a L) = mergeR (lessU a L) L 16 := by
  unfold mwnL mergeU mergeTo mergeR
  rw [List.map_filterMap]
  congr 1
  funext y
  split <;> rfl
theorem sum80 {a : Int} {l1 l2 : List S70} (h1 : listB a l1 = true) (h2 : listB a l2 = true) (y : Nat) : sumK (l1 ++ l2) y ≤ 80 := by
  have key : ∀ {l : List S70}, listB a l = true → sumK l y ≤ 40 := by
    intro l h
    obtain ⟨_, ho, _, hr⟩ := listOk_of h
    have hp : l.Pairwise (fun c d => c.f0 < d.f0) := by
      rw [List.pairwise_iff_getElem]
      intro i j hi hj hij
      induction j with
      | zero => omega
      | succ j ih =>
        have h3 := hr j hj
        by_cases e : i = j
        · subst e; exact h3
        · have := ih (by omega) (by omega)
          omega
    have hn : (keys l).Nodup := by
      unfold keys List.Nodup
      rw [List.pairwise_map]
      exact hp.imp (fun h => by omega)
    rw [sumK_val hn]
    unfold val
    cases hg : gt? l (y : Int) with
    | none => simp
    | some c => have := ho.num c (get_some hg).1; simp; omega
  rw [sumK_append]
  have := key h1
  have := key h2
  omega
theorem SketchMerges (a0 : Int) (l1 : List (S64)) (l2 : List (S64)) (h0_ : (Lit.int .i64 a0).wf = true) (h1_ : l1.length ≤ maxLen) (h2_ : (∀ x ∈ l1, ((Lit.int .i64 x.f0).wf = true ∧ (Lit.int .i64 x.f1).wf = true ∧ (Lit.int .i64 x.f2).wf = true))) (h3_ : l2.length ≤ maxLen) (h4_ : (∀ x ∈ l2, ((Lit.int .i64 x.f0).wf = true ∧ (Lit.int .i64 x.f1).wf = true ∧ (Lit.int .i64 x.f2).wf = true))) : ∃ k, congoulaw03_SketchMerges.f k a0 l1 l2 = some true := by
  refine ⟨l1.length + l2.length + 200, ?_⟩
  unfold congoulaw03_SketchMerges.f
  rw [Of_f l1 h1_ _ (by omega), Of_f l2 h3_ _ (by omega)]
  simp only [Option.bind_some, xMerge.f, listB_take]
  rw [List_f a0 l1 h1_ _ (by omega)]
  simp only [Option.bind_some]
  cases hv1 : rlistB a0 l1 with
  | false => simp [congoulaw03_SketchMerges.j0, awake_f]
  | true =>
    rw [if_pos rfl, List_f a0 l2 h3_ _ (by omega)]
    simp only [Option.bind_some]
    cases hv2 : rlistB a0 l2 with
    | false => simp [congoulaw03_SketchMerges.j0, awake_f]
    | true =>
      obtain ⟨hk, o1⟩ := ok64_of hv1
      obtain ⟨_, o2⟩ := ok64_of hv2
      have e1 : l1.take 11 = l1 := List.take_of_length_le (by have := o1.len; omega)
      have e2 : l2.take 11 = l2 := List.take_of_length_le (by have := o2.len; omega)
      have ea : L64 (l1 ++ l2) = L64 l1 ++ L64 l2 := by simp [L64]
      have hml := mergeU_len hk.1 hk.2 (L64 l1 ++ L64 l2)
      have hnum : ∀ c ∈ L64 l1 ++ L64 l2, 1 ≤ c.f1 ∧ c.f1 ≤ 40 := fun c hc => (List.mem_append.mp hc).elim ((listOk_of hv1).2.1.num c) ((listOk_of hv2).2.1.num c)
      have hless := less_same hk.1 hk.2 (fun y _ => sum80 hv1 hv2 y) hnum
      rw [e1, e2]
      simp only [and_self, if_true, Option.bind_some, Bool.not_true, congoulaw03_SketchMerges.j0]
      rw [if_neg (by simp), mwn_f _ (by omega) _ (by omega)]
      simp only [Option.bind_some, xRMerge.f, hv1, hv2, and_self, if_true, ea, hless]
      rw [← mwn_mergeU, mq64_f _ (by rw [mwnL_len]; omega) _ (by rw [mwnL_len]; omega)]
      simp [awake_f]
end Go.Proofs.Ytdffhffhnjkcpaa.Pure
