/- SketchKept: what is kept are keys of the stream, as many as there are places for; a stream that has no more is kept whole, in order. -/
import Derived.Test.YtdffhffhnjkcpaaXf6
import Derived.Test.YtdffhffhnjkcpaaS3
namespace Go.Proofs.Ytdffhffhnjkcpaa.Pure
set_option linter.unusedVariables false
set_option linter.unusedSimpArgs false
open Go.RowKit Go.Proofs.Ytdffhffhnjkcpaa.X Go.Proofs.YtdffhffhnjkcpaaW.PrintWords Go.Proofs.YtdffhffhnjkcpaaW.PrintLast

theorem keepU_cnt (a : Int) (d s : List Int) (ha : 1 ≤ a) (p : Int → Bool) (i : Nat) (hi : i ≤ s.length) : (keepU a d s i).countP p ≤ (s.take i).countP p := by
  induction i with
  | zero => simp [keepU]
  | succ i ih =>
    have ih := ih (by omega)
    rw [keepU_succ, take_snoc_rd s i (by omega), List.countP_append]
    split
    · rw [List.countP_append]
      omega
    · split
      · have h := List.countP_set (p := p) (l := keepU a d s i) (a := rd s i) (i := (Int.tmod (rd d i) ((i : Int) + 1)).toNat)
        by_cases hlt : (Int.tmod (rd d i) ((i : Int) + 1)).toNat < (keepU a d s i).length
        · rw [h hlt]
          simp only [List.countP_cons, List.countP_nil]
          split <;> split <;> omega
        · rw [List.set_eq_of_length_le (by omega)]
          omega
      · omega
theorem keepU_whole (a : Int) (d s : List Int) (i : Nat) (h : (i : Int) ≤ a) (hi : i ≤ s.length) : keepU a d s i = s.take i := by
  induction i with
  | zero => simp [keepU]
  | succ i ih => rw [keepU_succ, if_pos (by omega), ih (by omega) (by omega), take_snoc_rd s i (by omega)]

theorem Kept_l1 (a0 : Int) (s out : List Int) (hs : s.length ≤ 40) (ho : out.length ≤ 40) (hlen : (out.length : Int) = a0) (hm : ∀ x ∈ out, x ∈ s) (m : Nat) : ∀ (k i : Nat), i + m = out.length → m + s.length < k →
    congoulaw03_SketchKept.l1 k a0 s out out (out.length : Int) (i : Int) = some true := by
  induction m with
  | zero =>
    intro k i hi hk
    obtain ⟨k, rfl⟩ : ∃ m, k = m + 1 := ⟨k - 1, by omega⟩
    simp only [congoulaw03_SketchKept.l1]
    rw [if_neg (by omega), if_pos hlen, awake_f]
    rfl
  | succ m ih =>
    intro k i hi hk
    obtain ⟨k, rfl⟩ : ∃ m, k = m + 1 := ⟨k - 1, by omega⟩
    simp only [congoulaw03_SketchKept.l1]
    have hmem : rd out (i : Int) ∈ s := hm _ (by rw [rd_nat out i (by omega)]; exact List.getElem_mem _)
    rw [if_pos (by omega), if_pos (by omega), if_pos (by omega), Contains_f s _ (by omega) k (by omega), decide_eq_true hmem, w64 (by omega) (by omega)]
    simpa using ih k (i + 1) (by omega) (by omega)
theorem Kept_l0 (a0 : Int) (s out : List Int) (hs : s.length ≤ 40) (ho : out.length ≤ 40) (hlen : (out.length : Int) = a0) (hm : ∀ x ∈ out, x ∈ s) (hc : ∀ key : Nat, cnt out key ≤ cnt s key) (m : Nat) : ∀ (k i : Nat), i + m = 16 → m + s.length + out.length + 5 < k →
    congoulaw03_SketchKept.l0 k a0 s out (i : Int) = some true := by
  induction m with
  | zero =>
    intro k i hi hk
    obtain ⟨k, rfl⟩ : ∃ m, k = m + 1 := ⟨k - 1, by omega⟩
    simp only [congoulaw03_SketchKept.l0]
    rw [if_neg (by omega)]
    exact Kept_l1 a0 s out hs ho hlen hm out.length k 0 (by omega) (by omega)
  | succ m ih =>
    intro k i hi hk
    obtain ⟨k, rfl⟩ : ∃ m, k = m + 1 := ⟨k - 1, by omega⟩
    simp only [congoulaw03_SketchKept.l0]
    have := hc i
    rw [if_pos (by omega), Often_cnt out i (by omega) k (by omega), Often_cnt s i (by omega) k (by omega), w64 (by omega) (by omega)]
    simp only [Option.bind_some]
    rw [if_neg (by omega)]
    simpa using ih k (i + 1) (by omega) (by omega)
theorem SketchKept : congoulaw03_SketchKept.Pure := by
  intro a0 l1 l2 _ _ h1 _ _ h2 _
  have hlen : l1.length ≤ 17592186044416 := by omega
  have hlen2 : l2.length ≤ 17592186044416 := by omega
  refine ⟨l1.length + l2.length + 200, ?_⟩
  unfold congoulaw03_SketchKept.f
  rw [list_f l1 hlen, list_f l2 hlen2]
  simp only [Option.bind_some]
  rw [Keep_f a0 _ _ (by rw [List.length_take]; omega) _ (by rw [List.length_take, List.length_take]; omega)]
  simp only [Option.bind_some, Counters_f, streamB_take]
  rw [Stream_f l1 hlen _ (by omega)]
  cases hk : kB a0 with
  | false => simp [congoulaw03_SketchKept.j0, awake_f]
  | true =>
    cases hs : streamB l1 with
    | false => simp [congoulaw03_SketchKept.j0, awake_f]
    | true =>
      have hl := ((streamB_iff l1).mp hs).1
      rw [take_of_stream l1 hs, diceB_take l1 l2 hl]
      rw [Dice_f l1 l2 hlen2 _ (by omega)]
      cases hd : diceB l1 l2 with
      | false => simp [congoulaw03_SketchKept.j0, awake_f]
      | true =>
        obtain ⟨h3, _⟩ := (diceB_iff l1 l2).mp hd
        rw [List.take_of_length_le (show l2.length ≤ 45 by omega)]
        have ha : 1 ≤ a0 ∧ a0 ≤ 8 := by simpa [kB] using hk
        have hlk := keepU_len a0 l2 l1 ha.1 l1.length
        have hcp := fun p => keepU_cnt a0 l2 l1 ha.1 p l1.length (Nat.le_refl _)
        rw [List.take_length] at hcp
        simp only [and_self, if_true, Option.bind_some, Bool.not_true, congoulaw03_SketchKept.j0]
        rw [if_neg (by decide)]
        by_cases hle : (l1.length : Int) ≤ a0
        · rw [if_pos hle, keepU_whole a0 l2 l1 l1.length hle (Nat.le_refl _), List.take_length, Equal_f l1 l1 (by omega) _ (by omega)]
          simp [awake_f]
        · rw [if_neg hle]
          rw [if_neg (by omega)] at hlk
          refine Kept_l0 a0 l1 _ hl (by omega) hlk ?_ ?_ 16 _ 0 (by omega) (by omega)
          · intro x hx
            have h4 := hcp (fun y => y == x)
            have h5 : 0 < (keepU a0 l2 l1 l1.length).countP (fun y => y == x) := List.countP_pos_iff.mpr ⟨x, hx, by simp⟩
            obtain ⟨y, hy, hyx⟩ := List.countP_pos_iff.mp (show 0 < l1.countP (fun y => y == x) by omega)
            have : y = x := by simpa using hyx
            rwa [← this]
          · intro key
            have := hcp (fun y => y == (key : Int))
            unfold cnt
            omega
end Go.Proofs.Ytdffhffhnjkcpaa.Pure
