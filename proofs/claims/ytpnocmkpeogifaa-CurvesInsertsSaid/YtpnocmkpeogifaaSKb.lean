/- The reference's Insert. -/
import Derived.Test.YtpnocmkpeogifaaSK
import Derived.Test.YtpnocmkpeogifaaXf46
namespace Go.Proofs.Ytpnocmkpeogifaa.Pure
open Go.RowKit Go.Proofs.Ytpnocmkpeogifaa.X Go.Proofs.YtpnocmkpeogifaaW.PrintWords Go.Proofs.YtpnocmkpeogifaaW.PrintLast
set_option linter.unusedVariables false
set_option linter.unusedSimpArgs false
/-! ### the reference's -/
theorem rposes_l1 {d : Nat} {K P : List Int} {k : Int} {j : Nat} (h : Ins d K P k j) : ∀ (n q i : Nat), i + n = P.length + 1 → KG + n + 40 < q →
    congouref04_Insert.l1 q k (j : Int) (lm (pb (kn K) j k d P.length (PR P)) i) ((P.length + 1 : Nat) : Int) (i : Int) (d : Int) K P = some (lm (pb (kn K) j k d P.length (PR P)) (P.length + 1), 0) := by
  have hK := h.V.hK; have h8 := h.V.h8; have hd3 := h.V.hd; have hjn := h.jn; have hdj := h.dj; have hkb := h.kb
  intro n
  induction n with
  | zero =>
    intro q i hi hq
    obtain ⟨q, rfl⟩ : ∃ m, q = m + 1 := ⟨q - 1, by omega⟩
    rw [congouref04_Insert.l1, if_neg (by omega), show i = P.length + 1 by omega]
  | succ n ih =>
    intro q i hi hq
    obtain ⟨q, rfl⟩ : ∃ m, q = m + 1 := ⟨q - 1, by omega⟩
    have IH := ih q (i + 1) (by omega) (by omega)
    rw [lm_succ] at IH
    have hq2 : KG ≤ q := by omega
    rw [congouref04_Insert.l1, if_pos (by omega), w64 (i := (j : Int) - d) (by omega) (by omega), w64 (i := (i : Int) + 1) (by omega) (by omega), show (i : Int) + 1 = ((i + 1 : Nat) : Int) by omega]
    by_cases c1 : i + d ≤ j
    · have e : pb (kn K) j k d P.length (PR P) i = ((rd P (i : Int) : Int) : Rat) := by
        unfold pb PR; rw [if_pos (by omega), al, if_pos c1]; split <;> grind
      rw [if_pos (by omega), if_pos (by omega), if_pos (by omega), congouref04_whole.f, Option.bind_some, if_pos (by rw [lm_len]; omega)]
      rw [e] at IH
      have e2 : s26 ((rd P (i : Int) : Int) : Rat) = (⟨rd P (i : Int), 1⟩ : S26) := by unfold s26; rw [(whole_num _).1, (whole_num _).2]; rfl
      rw [e2] at IH
      exact IH
    · rw [if_neg (by omega)]
      by_cases c2 : i ≤ j
      · have h2 := kn_le h.V.mono (j + 1) (i + d) (by omega)
        have h3 := h.j2
        have h1 := (h.le i).mpr c2
        have b1 := h.V.h0 i; have b2 := h.V.h0 (i + d)
        have hi0 : 0 < i := by omega
        have e := al_of h i c1 c2
        have hb := h.al_bn i
        have hl := less_bn hb
        have hp0 := h.pole (show i < P.length by omega)
        have hp1 := h.pole (show i - 1 < P.length by omega)
        obtain ⟨o1, o2⟩ := one_less (al (kn K) j k d i)
        have hT := rtimes_q hq2 (a := al (kn K) j k d i) (b := PR P i) (A := 12) (B := 50) (D := 12) (E := 1) hb.n (by unfold PR; rw [(whole_num _).1]; exact hp0) hb.d (by unfold PR; rw [(whole_num _).2]; exact Nat.le_refl _) (by decide) (by decide)
        have hT2 := rtimes_q hq2 (a := 1 - al (kn K) j k d i) (b := PR P (i - 1)) (A := 24) (B := 50) (D := 12) (E := 1) hl.n (by unfold PR; rw [(whole_num _).1]; exact hp1) hl.d (by unfold PR; rw [(whole_num _).2]; exact Nat.le_refl _) (by decide) (by decide)
        have hw : ∀ m : Nat, (PR P m).num = rd P (m : Int) ∧ ((PR P m).den : Int) = 1 := fun m => ⟨(whole_num _).1, by unfold PR; rw [(whole_num _).2]; rfl⟩
        rw [(hw i).1, (hw i).2] at hT
        rw [(hw (i - 1)).1, (hw (i - 1)).2] at hT2
        obtain ⟨S1, S2⟩ := h.prods i (rd P (i : Int)) (rd P ((i - 1 : Nat) : Int)) hp0 hp1
        have hPl := rplus_f hq2 (al (kn K) j k d i).den_pos S1 S2 (by have := hb.d; omega) (by have := hb.d; omega)
        have hF := frac_f hq2 (a := ((al (kn K) j k d i).den : Int) - (al (kn K) j k d i).num) (b := (al (kn K) j k d i).den) (by have := hb.n; have := hb.d; omega) (by have := hb.n; have := hb.d; omega) (den_pos _) (by have := hb.d; omega)
        rw [← o1] at hF
        have hq0 : pb (kn K) j k d P.length (PR P) i = al (kn K) j k d i * PR P i + (1 - al (kn K) j k d i) * PR P (i - 1) := by
          unfold pb; rw [if_pos (by omega), if_pos hi0]
        rw [if_neg (by omega), if_pos (by omega), if_pos (by omega), w64 (i := (i : Int) + d) (by omega) (by omega), if_pos (by omega), if_pos (by omega), rd_kn (by omega), show (i : Int) + d = ((i + d : Nat) : Int) by omega, rd_kn (by omega), w64 (i := k - kn K i) (by omega) (by omega), w64 (i := kn K (i + d) - kn K i) (by omega) (by omega), frac_f hq2 (by omega) (by omega) (by omega) (by omega), Option.bind_some, ← e, if_pos (by omega), congouref04_whole.f, Option.bind_some]
        simp only [cn] at hT hT2 hPl hF ⊢
        rw [hT, Option.bind_some, w64 (i := ((al (kn K) j k d i).den : Int) - (al (kn K) j k d i).num) (by have := hb.n; have := hb.d; omega) (by have := hb.n; have := hb.d; omega), hF, Option.bind_some, w64 (i := (i : Int) - 1) (by omega) (by omega), if_pos (by omega), if_pos (by omega), show (i : Int) - 1 = ((i - 1 : Nat) : Int) by omega, congouref04_whole.f, Option.bind_some, hT2, Option.bind_some]
        unfold PR at *
        rw [hPl, Option.bind_some, if_pos (by rw [lm_len]; omega)]
        rw [hq0] at IH
        exact IH
      · have hi0 : 0 < i := by omega
        have e : pb (kn K) j k d P.length (PR P) i = ((rd P ((i - 1 : Nat) : Int) : Int) : Rat) := by
          have ea : al (kn K) j k d i = 0 := by rw [al, if_neg c1, if_pos (by omega)]
          unfold pb PR; rw [ea, if_pos hi0]; split <;> grind
        rw [if_pos (by omega), w64 (i := (i : Int) - 1) (by omega) (by omega), if_pos (by omega), if_pos (by omega), show (i : Int) - 1 = ((i - 1 : Nat) : Int) by omega, congouref04_whole.f, Option.bind_some, if_pos (by rw [lm_len]; omega)]
        rw [e] at IH
        have e2 : s26 ((rd P ((i - 1 : Nat) : Int) : Int) : Rat) = (⟨rd P ((i - 1 : Nat) : Int), 1⟩ : S26) := by unfold s26; rw [(whole_num _).1, (whole_num _).2]; rfl
        rw [e2] at IH
        exact IH
theorem rfind_l0 {d : Nat} {K P : List Int} {k : Int} {j : Nat} (h : Ins d K P k j) : ∀ (n q i : Nat), i + n = K.length →
    congouref04_Insert.l0 (q + n + 1) k (eqs k (K.take i) : Int) ((min (i - 1) j : Nat) : Int) K (K.length : Int) (i : Int) (d : Int) K P = (if d < eqs k K then some ([], 4) else congouref04_Insert.l1 q k (j : Int) [] ((P.length + 1 : Nat) : Int) 0 (d : Int) K P) := by
  have hK := h.V.hK; have h8 := h.V.h8; have hd3 := h.V.hd; have hjn := h.jn
  have hle : ∀ i, eqs k (K.take i) ≤ K.length := fun i => Nat.le_trans (List.length_filter_le _ _) (by rw [List.length_take]; omega)
  intro n
  induction n with
  | zero =>
    intro q i hi
    rw [congouref04_Insert.l0, if_neg (by omega), w64 (by omega) (by omega), show (P.length : Int) + 1 = ((P.length + 1 : Nat) : Int) by omega, show min (i - 1) j = j by omega, List.take_of_length_le (by omega)]
    by_cases c : d < eqs k K
    · rw [if_pos (by omega), if_pos c]
    · rw [if_neg (by omega), if_neg c]
  | succ n ih =>
    intro q i hi
    have hl := hle i
    have hl2 := hle (i + 1)
    rw [show q + (n + 1) + 1 = (q + n + 1) + 1 by omega, congouref04_Insert.l0, if_pos (by omega), if_pos (by omega), if_pos (by omega), rd_kn (by omega), w64 (i := (i : Int) + 1) (by omega) (by omega), w64 (i := (eqs k (K.take i) : Int) + 1) (by omega) (by omega), show (i : Int) + 1 = ((i + 1 : Nat) : Int) by omega, show (eqs k (K.take i) : Int) + 1 = ((eqs k (K.take i) + 1 : Nat) : Int) by omega]
    have IH := ih q (i + 1) (by omega)
    rw [eqs_take (show i < K.length by omega)] at IH
    by_cases c0 : kn K i = k
    · have c : i ≤ j := (h.le i).mp (by omega)
      rw [if_pos c0] at IH
      rw [if_pos c0, if_pos (by omega)]
      rw [show min (i + 1 - 1) j = i by omega] at IH
      exact IH
    · rw [if_neg c0, Nat.add_zero] at IH
      rw [if_neg c0]
      by_cases c : i ≤ j
      · rw [if_pos ((h.le i).mpr c)]
        rw [show min (i + 1 - 1) j = i by omega] at IH
        exact IH
      · rw [if_neg fun e => c ((h.le i).mp e)]
        rw [show min (i + 1 - 1) j = min (i - 1) j by omega] at IH
        exact IH
theorem rinsert_in {q : Nat} (hq : Rk q) {d : Nat} {K P : List Int} {k : Int} {j : Nat} (h : Ins d K P k j) : congouref04_Insert.f q d K P k = some (insR d K P k j) := by
  have V := h.V
  have hK := V.hK; have h8 := V.h8; have hd := V.hd; have hn := V.hn
  obtain ⟨t1, t2⟩ := h.times
  have hqa := hq.a
  obtain ⟨q, rfl⟩ : ∃ m, q = m + K.length + 1 := ⟨q - K.length - 1, by have := hq.b; omega⟩
  unfold congouref04_Insert.f insR
  by_cases c : P.length = 8
  · rw [if_pos (by omega), if_pos c]
  · rw [if_neg (by omega), if_neg c]
    have F := rfind_l0 h K.length q 0 (by omega)
    rw [show min (0 - 1) j = 0 by omega, List.take_zero, show eqs k [] = 0 by rfl] at F
    rw [show ((0 : Nat) : Int) = 0 by rfl] at F
    rw [F]
    by_cases c2 : kn K (j - d) = k
    · rw [if_pos (t2.mpr c2), if_pos c2]
    · rw [if_neg fun e => c2 (t2.mp e), if_neg c2]
      exact rposes_l1 h (P.length + 1) q 0 (by omega) (by omega)
end Go.Proofs.Ytpnocmkpeogifaa.Pure
