/- SketchTogether: the lists of two parts merge to a list of the whole. -/
import Derived.Test.YtdffhffhnjkcpaaXf15
import Derived.Test.YtdffhffhnjkcpaaS14
import Derived.Test.YtdffhffhnjkcpaaS10
import Derived.Test.YtdffhffhnjkcpaaS2
namespace Go.Proofs.Ytdffhffhnjkcpaa.Pure
set_option linter.unusedVariables false
set_option linter.unusedSimpArgs false
open Go.RowKit Go.Proofs.Ytdffhffhnjkcpaa.X Go.Proofs.YtdffhffhnjkcpaaW.PrintWords Go.Proofs.YtdffhffhnjkcpaaW.PrintLast

theorem cnt_cntI' (l : List Int) (y : Nat) : cnt l y = cntI l (y : Int) := rfl
/-- What the merged list tells of a key: not more than it comes, and not fewer than that less the length divided. -/
theorem merged_val {a0 : Int} {l1 l2 : List Int} (ha : 1 ≤ a0 ∧ a0 ≤ 8) (hs1 : streamB l1 = true) (hs2 : streamB l2 = true) (y : Nat) (hy : y < 16) :
    ∃ E : Int, 0 ≤ E ∧ E * (a0 + 1) ≤ (l1.length : Int) + l2.length ∧ 0 ≤ val (mergeU a0 (risen (foldS a0 l1) ++ risen (foldS a0 l2))) (y : Int) ∧
      val (mergeU a0 (risen (foldS a0 l1) ++ risen (foldS a0 l2))) (y : Int) ≤ cntI l1 (y : Int) + cntI l2 (y : Int) ∧
      cntI l1 (y : Int) + cntI l2 (y : Int) - E ≤ val (mergeU a0 (risen (foldS a0 l1) ++ risen (foldS a0 l2))) (y : Int) := by
  have hx1 := ((streamB_iff l1).mp hs1).2
  have hl1 := ((streamB_iff l1).mp hs1).1
  have hx2 := ((streamB_iff l2).mp hs2).2
  have hl2 := ((streamB_iff l2).mp hs2).1
  obtain ⟨D1, hI1⟩ := foldS_inv ha.1 l1
  obtain ⟨D2, hI2⟩ := foldS_inv ha.1 l2
  have hk1 : ∀ c ∈ foldS a0 l1, 0 ≤ c.f0 ∧ c.f0 < 16 := fun c hc => hx1 _ (hI1.pos c hc).2.2
  have hk2 : ∀ c ∈ foldS a0 l2, 0 ≤ c.f0 ∧ c.f0 < 16 := fun c hc => hx2 _ (hI2.pos c hc).2.2
  have m1 := mem_risen hI1.nd hk1
  have m2 := mem_risen hI2.nd hk2
  have hkey : ∀ c ∈ risen (foldS a0 l1) ++ risen (foldS a0 l2), 0 ≤ c.f0 ∧ c.f0 < 16 := fun c hc => (List.mem_append.mp hc).elim (fun h => hk1 c ((m1 c).mp h)) (fun h => hk2 c ((m2 c).mp h))
  have hnum : ∀ c ∈ risen (foldS a0 l1) ++ risen (foldS a0 l2), 1 ≤ c.f1 ∧ c.f1 ≤ 40 := fun c hc => (List.mem_append.mp hc).elim (fun h => by have := hI1.small ha.1 c ((m1 c).mp h); omega) (fun h => by have := hI2.small ha.1 c ((m2 c).mp h); omega)
  have hlt := less_tot ha.1 ha.2 _ hkey hnum
  have hl0 := (lessU_bound ha.1 ha.2 hnum).1
  rw [tot_append, tot_risen hI1.nd hk1, tot_risen hI2.nd hk2] at hlt
  have nd1 : (keys (risen (foldS a0 l1))).Nodup := by
    unfold keys List.Nodup
    rw [List.pairwise_map]
    exact (risen_rise _).imp (fun h => by omega)
  have nd2 : (keys (risen (foldS a0 l2))).Nodup := by
    unfold keys List.Nodup
    rw [List.pairwise_map]
    exact (risen_rise _).imp (fun h => by omega)
  have hsum : sumK (risen (foldS a0 l1) ++ risen (foldS a0 l2)) y = val (foldS a0 l1) (y : Int) + val (foldS a0 l2) (y : Int) := by
    rw [sumK_append, sumK_val nd1, sumK_val nd2, val_risen hI1.nd hk1, val_risen hI2.nd hk2]
  rw [val_mergeU a0 _ y hy, hsum]
  generalize lessU a0 (risen (foldS a0 l1) ++ risen (foldS a0 l2)) = le at *
  have t1 := hI1.tot
  have t2 := hI2.tot
  have a1 := hI1.lo (y : Int)
  have a2 := hI2.lo (y : Int)
  have b1 := hI1.hi (y : Int)
  have b2 := hI2.hi (y : Int)
  have d1 := hI1.d0
  have d2 := hI2.d0
  have c1 := cnt_nonneg l1 (y : Int)
  have c2 := cnt_nonneg l2 (y : Int)
  refine ⟨D1 + D2 + le, by omega, ?_, ?_, ?_, ?_⟩
  · rw [Int.add_mul, Int.add_mul]
    omega
  · split <;> omega
  · split <;> omega
  · split <;> omega
theorem Together_l (a0 : Int) (l1 l2 : List Int) (ha : 1 ≤ a0 ∧ a0 ≤ 8) (hs1 : streamB l1 = true) (hs2 : streamB l2 = true) (d : Nat) : ∀ (k i : Nat), i + d = 16 → d + 100 < k →
    congoulaw03_SketchTogether.l0 k a0 l1 l2 (mergeU a0 (risen (foldS a0 l1) ++ risen (foldS a0 l2))) (i : Int) = some true := by
  have hl1 := ((streamB_iff l1).mp hs1).1
  have hl2 := ((streamB_iff l2).mp hs2).1
  have hlen := mergeU_len ha.1 ha.2 (risen (foldS a0 l1) ++ risen (foldS a0 l2))
  induction d with
  | zero =>
    intro k i hi hk
    obtain ⟨k, rfl⟩ : ∃ m, k = m + 1 := ⟨k - 1, by omega⟩
    simp only [congoulaw03_SketchTogether.l0]
    rw [if_neg (by omega), awake_f]
    rfl
  | succ d ih =>
    intro k i hi hk
    obtain ⟨k, rfl⟩ : ∃ m, k = m + 1 := ⟨k - 1, by omega⟩
    have hi16 : i < 16 := by omega
    have hn := ih k (i + 1) (by omega) (by omega)
    have hkB : keyB (i : Int) = true := by simp [keyB]; omega
    obtain ⟨E, hE0, hE, hv0, hhi, hlo⟩ := merged_val ha hs1 hs2 i hi16
    have hcn1 := cnt_nonneg l1 (i : Int)
    have hcl1 := cnt_leI l1 (i : Int)
    have hcn2 := cnt_nonneg l2 (i : Int)
    have hcl2 := cnt_leI l2 (i : Int)
    generalize hN : (l1.length : Int) + l2.length = N at *
    have hEd : E ≤ N / (a0 + 1) := Int.le_ediv_of_mul_le (by omega) (by omega)
    have hdl : N / (a0 + 1) ≤ N := Int.ediv_le_self _ (by omega)
    have hd0 : 0 ≤ N / (a0 + 1) := Int.ediv_nonneg (by omega) (by omega)
    have htd : Int.tdiv N (a0 + 1) = N / (a0 + 1) := Int.tdiv_eq_ediv_of_nonneg (by omega)
    have h2 : (cntI l1 (i : Int) + cntI l2 (i : Int)) * (a0 + 1) ≤ 80 * (a0 + 1) := Int.mul_le_mul_of_nonneg_right (by omega) (by omega)
    have h3 : 0 ≤ (cntI l1 (i : Int) + cntI l2 (i : Int)) * (a0 + 1) := Int.mul_nonneg (by omega) (by omega)
    simp only [congoulaw03_SketchTogether.l0]
    rw [if_pos (by omega), list_f l1 (by omega), take_of_stream l1 hs1]
    simp only [Option.bind_some, xOften.f, hs1, hkB, and_self, if_true, Int.toNat_natCast]
    rw [list_f l2 (by omega), take_of_stream l2 hs2]
    simp only [Option.bind_some, hs2, hkB, and_self, if_true, Int.toNat_natCast]
    rw [of_f _ _ (by omega) k (by omega)]
    simp only [Option.bind_some, if_true]
    rw [ofU_val, cnt_cntI', cnt_cntI', hN, w64 (i := a0 + 1) (by omega) (by omega), w64 (i := N) (by omega) (by omega), htd, w64 (i := N / (a0 + 1)) (by omega) (by omega), w64 (i := cntI l1 (i : Int) + cntI l2 (i : Int)) (by omega) (by omega), w64 (i := cntI l1 (i : Int) + cntI l2 (i : Int) - N / (a0 + 1)) (by omega) (by omega), w64 (i := (cntI l1 (i : Int) + cntI l2 (i : Int)) * (a0 + 1)) (by omega) (by omega)]
    rw [if_neg (by omega), if_neg (by omega), if_neg (by omega)]
    rw [w64 (i := (i : Int) + 1) (by omega) (by omega), show (i : Int) + 1 = ((i + 1 : Nat) : Int) by omega, hn]
    by_cases hp : (cntI l1 (i : Int) + cntI l2 (i : Int)) * (a0 + 1) > N
    · have h1 : E < cntI l1 (i : Int) + cntI l2 (i : Int) := by
        refine Classical.byContradiction fun q => ?_
        have : (cntI l1 (i : Int) + cntI l2 (i : Int)) * (a0 + 1) ≤ E * (a0 + 1) := Int.mul_le_mul_of_nonneg_right (by omega) (by omega)
        omega
      rw [if_pos hp, if_neg (by omega)]
    · rw [if_neg hp]
theorem short_listB {a0 : Int} {l : List Int} (hk : kB a0 = true) (hs : streamB l = true) : listB a0 (risen (foldS a0 l)) = true := by
  have ha : 1 ≤ a0 ∧ a0 ≤ 8 := by simpa [kB] using hk
  have hx := ((streamB_iff l).mp hs).2
  have hl := ((streamB_iff l).mp hs).1
  obtain ⟨D, hI⟩ := foldS_inv ha.1 l
  have hkey : ∀ c ∈ foldS a0 l, 0 ≤ c.f0 ∧ c.f0 < 16 := fun c hc => hx _ (hI.pos c hc).2.2
  have m := mem_risen hI.nd hkey
  have := hI.len
  exact listB_of hk (by rw [len_risen hI.nd hkey]; omega) (risen_rise _) (fun c hc => hkey c ((m c).mp hc)) (fun c hc => by have := hI.small ha.1 c ((m c).mp hc); omega) (fun c hc => (hI.pos c ((m c).mp hc)).2.1)
theorem SketchTogether : congoulaw03_SketchTogether.Pure := by
  intro a0 l1 l2 _ _ hm1 _ _ hm2 _
  have hlen1 : l1.length ≤ 17592186044416 := by omega
  have hlen2 : l2.length ≤ 17592186044416 := by omega
  refine ⟨400, ?_⟩
  unfold congoulaw03_SketchTogether.f
  rw [list_f l1 hlen1, list_f l2 hlen2]
  simp only [Option.bind_some, xShort.f, streamB_take]
  cases hk : kB a0 with
  | false => simp [congoulaw03_SketchTogether.j0, awake_f]
  | true =>
    cases hs1 : streamB l1 with
    | false => simp [congoulaw03_SketchTogether.j0, awake_f]
    | true =>
      cases hs2 : streamB l2 with
      | false => simp [congoulaw03_SketchTogether.j0, awake_f]
      | true =>
        have ha : 1 ≤ a0 ∧ a0 ≤ 8 := by simpa [kB] using hk
        have hv1 := short_listB hk hs1
        have hv2 := short_listB hk hs2
        have hml := mergeU_len ha.1 ha.2 (risen (foldS a0 l1) ++ risen (foldS a0 l2))
        have g1 := (listOk_of hv1).2.1.len
        have g2 := (listOk_of hv2).2.1.len
        have hloop := Together_l a0 l1 l2 ha hs1 hs2 16 398 0 (by omega) (by omega)
        rw [take_of_stream l1 hs1, take_of_stream l2 hs2]
        simp only [and_self, if_true, Option.bind_some]
        rw [Counters_f, hk]
        simp only [Option.bind_some, Bool.not_true, congoulaw03_SketchTogether.j0]
        rw [if_neg (by simp), clone70_f _ (by omega), clone70_f _ (by omega)]
        simp only [Option.bind_some, xMerge.f, hv1, hv2, and_self, if_true]
        rw [mergeU_comm a0 (risen (foldS a0 l2)), eq70_f _ (by omega) _ (by omega)]
        simp only [Option.bind_some, if_true]
        rw [order_f a0 _ (mergeU_rise _ _) (fun c hc => by obtain ⟨y, hy, _, rfl⟩ := mem_mergeU.mp hc; simp; omega) (by omega) _ (by omega)]
        simp only [Option.bind_some, decide_eq_true hml, Bool.not_true, congoulaw03_SketchTogether.j1]
        rw [if_neg (by simp)]
        exact hloop
end Go.Proofs.Ytdffhffhnjkcpaa.Pure
