/- The longer knots: a valid curve, its pieces, the sum of the poles that Insert returns. -/
import Derived.Test.YtpnocmkpeogifaaSK
import Derived.Test.YtpnocmkpeogifaaSP
namespace Go.Proofs.Ytpnocmkpeogifaa.Pure
open Go.RowKit Go.Proofs.Ytpnocmkpeogifaa.X Go.Proofs.YtpnocmkpeogifaaW.PrintWords Go.Proofs.YtpnocmkpeogifaaW.PrintLast
set_option linter.unusedVariables false
set_option linter.unusedSimpArgs false

/-- the list with a knot more -/
def LK (K : List Int) (j : Nat) (k : Int) : List Int := K.take (j + 1) ++ [k] ++ K.drop (j + 1)
theorem lk_len (K : List Int) (j : Nat) (k : Int) : (LK K j k).length = K.length + 1 := by
  unfold LK
  rw [List.length_append, List.length_append, List.length_take, List.length_drop, List.length_singleton]; omega
theorem lk_kn {K : List Int} {j : Nat} (k : Int) (hj : j < K.length) (i : Nat) : kn (LK K j k) i = K2 (kn K) j k i := by
  unfold LK K2 kn
  rw [List.getD_eq_getElem?_getD, List.append_assoc, List.getElem?_append, List.length_take, Nat.min_eq_left (by omega)]
  by_cases c1 : i ≤ j
  · rw [if_pos (by omega), if_pos c1, List.getElem?_take_of_lt (by omega), List.getD_eq_getElem?_getD]
  · rw [if_neg (by omega), if_neg c1]
    by_cases c2 : i = j + 1
    · rw [if_pos c2, c2, Nat.sub_self]; rfl
    · rw [if_neg c2]
      obtain ⟨m, rfl⟩ : ∃ m, i = j + 2 + m := ⟨i - j - 2, by omega⟩
      rw [show j + 2 + m - (j + 1) = m + 1 by omega, List.singleton_append, List.getElem?_cons_succ, List.getElem?_drop, List.getD_eq_getElem?_getD, show j + 1 + m = j + 2 + m - 1 by omega]
theorem lk_fun {K : List Int} {j : Nat} (k : Int) (hj : j < K.length) : kn (LK K j k) = K2 (kn K) j k := funext (lk_kn k hj)
theorem Ins.longer {d : Nat} {K P : List Int} {k : Int} {j : Nat} (h : Ins d K P k j) (h8 : P.length ≠ 8) (hne : kn K (j - d) ≠ k) : VP d (LK K j k) (List.replicate (P.length + 1) 0) := by
  have V := h.V
  have hK := V.hK; have hjn := h.jn; have hdj := h.dj
  have le := kn_le V.mono
  have e := lk_kn (K := K) (j := j) k (by omega)
  refine ⟨V.hd, by rw [List.length_replicate]; have := V.hn; omega, by rw [List.length_replicate]; have := V.h8; omega, by rw [lk_len, List.length_replicate]; omega, ?_, ?_, ?_, ?_, ?_⟩
  · intro x hx
    have := List.eq_of_mem_replicate hx
    omega
  · intro i
    rw [e]; unfold K2
    split
    · exact V.h0 i
    · split
      · exact h.kb
      · exact V.h0 _
  · intro i
    rw [e, e]
    exact k2_mono (fun a b => le a b) h.j1 h.j2 i (i + 1) (by omega)
  · intro i hi
    rw [List.length_replicate] at hi
    rw [e, e]
    have hj1 := h.j1; have hj2 := h.j2
    unfold K2
    by_cases c1 : i + d + 1 ≤ j
    · rw [if_pos (by omega), if_pos c1]
      exact V.ne i (by omega)
    · rw [if_neg c1]
      by_cases c2 : i + d + 1 = j + 1
      · rw [if_pos (by omega), if_pos c2, show i = j - d by omega]
        exact hne
      · rw [if_neg c2]
        have := le (j + 1) (i + d + 1 - 1) (by omega)
        by_cases c3 : i ≤ j
        · rw [if_pos c3]
          have := le i j c3
          omega
        · rw [if_neg c3]
          by_cases c4 : i = j + 1
          · rw [if_pos c4]; omega
          · rw [if_neg c4]
            have := V.ne (i - 1) (by omega)
            rw [show i - 1 + d + 1 = i + d + 1 - 1 by omega] at this
            exact this
  · rw [List.length_replicate, e, e]
    unfold K2
    rw [if_pos hdj, if_neg (by omega), if_neg (by omega)]
    exact V.span
theorem Ins.point {d : Nat} {K P : List Int} {k : Int} {j : Nat} (h : Ins d K P k j) {x y : Int} (I : IP d K P x y) : IP d (LK K j k) (List.replicate (P.length + 1) 0) x y := by
  have hK := h.V.hK; have hjn := h.jn; have hdj := h.dj
  have e := lk_kn (K := K) (j := j) k (by omega)
  refine ⟨I.y1, I.y12, I.x0, I.x12, I.g, ?_, ?_⟩
  · rw [e]; unfold K2; rw [if_pos hdj]; exact I.lo
  · rw [List.length_replicate, e]; unfold K2; rw [if_neg (by omega), if_neg (by omega)]; exact I.hi
theorem pci_uniq {d : Nat} {K P : List Int} {x y : Int} {p q : Nat} (h : PcI d K P x y p) (q1 : q < P.length) (q2 : kn K q < kn K (q + 1)) (q3 : kn K q * y ≤ x) (q4 : ∀ j, q < j → j < P.length → kn K j < kn K (j + 1) → x < kn K j * y) : p = q := by
  rcases Nat.lt_trichotomy p q with c | c | c
  · have := h.mx q c q1 q2
    omega
  · exact c
  · have := q4 p c h.pn h.lt
    have := h.lo
    omega
theorem ki_of {d : Nat} {K P : List Int} {k : Int} {j : Nat} (h : Ins d K P k j) {t : Rat} {p q : Nat} (B : Bs d K P t p) (B2 : Bs d (LK K j k) (List.replicate (P.length + 1) 0) t q) : Ki (kn K) j k p q t := by
  have V := h.V
  have hK := V.hK; have hjn := h.jn; have hdj := h.dj
  have hj1 := h.j1; have hj2 := h.j2
  have e := lk_kn (K := K) (j := j) k (by omega)
  have le := kn_le V.mono
  have c := B.c
  have c2 := B2.c
  have y1 := B.i.y1
  have el : (List.replicate (P.length + 1) (0 : Int)).length = P.length + 1 := List.length_replicate
  have A1 : ∀ i, i ≤ j → kn (LK K j k) i = kn K i := fun i hi => by rw [e]; exact if_pos hi
  have A2 : kn (LK K j k) (j + 1) = k := by rw [e]; unfold K2; rw [if_neg (by omega), if_pos rfl]
  have A3 : ∀ i, j < i → kn (LK K j k) (i + 1) = kn K i := fun i hi => by rw [e]; unfold K2; rw [if_neg (by omega), if_neg (by omega)]; rfl
  have ml : ∀ {a b : Int}, a ≤ b → a * (t.den : Int) ≤ b * t.den := fun hab => mul_le_y hab y1
  refine ⟨fun i i' => le i i', hj1, hj2, ?_, ?_, ?_, ?_⟩
  · intro hp
    refine pci_uniq c2 (by omega) (by rw [A1 p (by omega), A1 (p + 1) (by omega)]; exact c.lt) (by rw [A1 p (by omega)]; exact c.lo) ?_
    intro i i1 i2 i3
    rw [el] at i2
    have mj := c.mx j hp hjn (by omega)
    by_cases g1 : i ≤ j
    · rw [A1 i g1] at i3 ⊢
      by_cases g2 : i = j
      · subst g2; exact mj
      · rw [A1 (i + 1) (by omega)] at i3
        exact c.mx i i1 (by omega) i3
    · by_cases g2 : i = j + 1
      · rw [g2, A2]
        have := ml hj1
        omega
      · obtain ⟨m, rfl⟩ : ∃ m, i = m + 1 := ⟨i - 1, by omega⟩
        rw [A3 m (by omega)] at i3 ⊢
        rw [A3 (m + 1) (by omega)] at i3
        exact c.mx m (by omega) (by omega) i3
  · intro hp
    have cp := c.pn
    refine pci_uniq c2 (by omega) (by rw [A3 p hp, A3 (p + 1) (by omega)]; exact c.lt) (by rw [A3 p hp]; exact c.lo) ?_
    intro i i1 i2 i3
    rw [el] at i2
    obtain ⟨m, rfl⟩ : ∃ m, i = m + 1 := ⟨i - 1, by omega⟩
    rw [A3 m (by omega)] at i3 ⊢
    rw [A3 (m + 1) (by omega)] at i3
    exact c.mx m (by omega) (by omega) i3
  · intro hp
    have cl := c.lo
    rw [hp] at cl
    have tail : ∀ i, j + 1 < i → i < (List.replicate (P.length + 1) (0 : Int)).length → kn (LK K j k) i < kn (LK K j k) (i + 1) → t.num < kn (LK K j k) i * t.den := by
      intro i i1 i2 i3
      rw [el] at i2
      obtain ⟨m, rfl⟩ : ∃ m, i = m + 1 := ⟨i - 1, by omega⟩
      rw [A3 m (by omega)] at i3 ⊢
      rw [A3 (m + 1) (by omega)] at i3
      exact c.mx m (by omega) (by omega) i3
    by_cases g : k * t.den ≤ t.num
    · right
      refine pci_uniq c2 (by omega) ?_ (by rw [A2]; exact g) tail
      rw [A2, A3 (j + 1) (by omega)]; exact hj2
    · left
      have hlt : kn K j < k := lt_of_mul_y (y := (t.den : Int)) (by omega) y1
      refine pci_uniq c2 (by omega) (by rw [A1 j (by omega), A2]; exact hlt) (by rw [A1 j (by omega)]; exact cl) ?_
      intro i i1 i2 i3
      by_cases g2 : i = j + 1
      · rw [g2, A2]; omega
      · exact tail i (by omega) i2 i3
  · have := c2.lt
    rwa [e, e] at this

/-! ### bounds of the poles -/
theorem Ins.al_01 {d : Nat} {K P : List Int} {k : Int} {j : Nat} (h : Ins d K P k j) (i : Nat) : 0 ≤ al (kn K) j k d i ∧ al (kn K) j k d i ≤ 1 := by
  unfold al
  split
  · exact ⟨by decide, by decide⟩
  · split
    · exact ⟨by decide, by decide⟩
    · rename_i c1 c2
      have h1 := (h.le i).mpr (by omega)
      have h2 := kn_le h.V.mono (j + 1) (i + d) (by omega)
      have h3 := h.j2
      have n1 := rne (show kn K (i + d) ≠ kn K i by omega)
      have p1 : (0 : Rat) ≤ ((k - kn K i : Int) : Rat) := Rat.intCast_nonneg.mpr (by omega)
      have p2 : (0 : Rat) ≤ ((kn K (i + d) - kn K i : Int) : Rat) := Rat.intCast_nonneg.mpr (by omega)
      have p3 : (0 : Rat) ≤ ((kn K (i + d) - k : Int) : Rat) := Rat.intCast_nonneg.mpr (by omega)
      have q1 := div_nonneg p1 p2
      have q2 := div_nonneg p3 p2
      have e : ((k - kn K i : Int) : Rat) / ((kn K (i + d) - kn K i : Int) : Rat) = 1 - ((kn K (i + d) - k : Int) : Rat) / ((kn K (i + d) - kn K i : Int) : Rat) := by
        simp only [Rat.intCast_sub]
        grind
      refine ⟨q1, ?_⟩
      rw [e]
      clear e q1 n1
      grind
theorem rd_50 {d : Nat} {K P : List Int} (V : VP d K P) {i : Nat} (hi : i < P.length) : (-50 : Rat) ≤ PR P i ∧ PR P i ≤ (50 : Rat) := by
  obtain ⟨p1, p2⟩ := V.hP _ (rd_mem hi)
  exact ⟨by have := Rat.intCast_le_intCast.mpr p1; exact this, by have := Rat.intCast_le_intCast.mpr p2; exact this⟩
theorem conv_50 {a x y : Rat} (h0 : 0 ≤ a) (h1 : a ≤ 1) (x1 : -50 ≤ x) (x2 : x ≤ 50) (y1 : -50 ≤ y) (y2 : y ≤ 50) : -50 ≤ a * x + (1 - a) * y ∧ a * x + (1 - a) * y ≤ 50 := by
  have g : 0 ≤ 1 - a := by grind
  have e1 := Rat.mul_le_mul_of_nonneg_left x1 h0
  have e2 := Rat.mul_le_mul_of_nonneg_left x2 h0
  have e3 := Rat.mul_le_mul_of_nonneg_left y1 g
  have e4 := Rat.mul_le_mul_of_nonneg_left y2 g
  constructor <;> grind
theorem Ins.pb_50 {d : Nat} {K P : List Int} {k : Int} {j : Nat} (h : Ins d K P k j) {i : Nat} (hi : i ≤ P.length) : -50 ≤ pb (kn K) j k d P.length (PR P) i ∧ pb (kn K) j k d P.length (PR P) i ≤ 50 := by
  obtain ⟨a0, a1⟩ := h.al_01 i
  have z1 : (-50 : Rat) ≤ 0 := by decide
  have z2 : (0 : Rat) ≤ 50 := by decide
  have e : pb (kn K) j k d P.length (PR P) i = al (kn K) j k d i * (if i < P.length then PR P i else 0) + (1 - al (kn K) j k d i) * (if 0 < i then PR P (i - 1) else 0) := by
    unfold pb
    split <;> split <;> grind
  rw [e]
  have X : (-50 : Rat) ≤ (if i < P.length then PR P i else 0) ∧ (if i < P.length then PR P i else 0) ≤ (50 : Rat) := by
    split
    · rename_i c; exact rd_50 h.V c
    · exact ⟨z1, z2⟩
  have Y : (-50 : Rat) ≤ (if 0 < i then PR P (i - 1) else 0) ∧ (if 0 < i then PR P (i - 1) else 0) ≤ (50 : Rat) := by
    split
    · exact rd_50 h.V (by omega)
    · exact ⟨z1, z2⟩
  exact conv_50 a0 a1 X.1 X.2 Y.1 Y.2
/-- the widths that divide the parts -/
def wd (K : Nat → Int) (j d m : Nat) : Nat := if m ≤ d then (K (j - d + m + d) - K (j - d + m)).natAbs else 1
def WD (K : Nat → Int) (j d : Nat) : Nat := wd K j d 1 * wd K j d 2 * wd K j d 3
theorem Ins.wd_b {d : Nat} {K P : List Int} {k : Int} {j : Nat} (h : Ins d K P k j) {m : Nat} (hm : 1 ≤ m) : 0 < wd (kn K) j d m ∧ wd (kn K) j d m ≤ 12 := by
  unfold wd
  have hdj := h.dj
  split
  · have h1 := (h.le (j - d + m)).mpr (by omega)
    have h2 := kn_le h.V.mono (j + 1) (j - d + m + d) (by omega)
    have h3 := h.j2
    have := h.V.h0 (j - d + m + d); have := h.V.h0 (j - d + m)
    omega
  · omega
theorem Ins.WD_b {d : Nat} {K P : List Int} {k : Int} {j : Nat} (h : Ins d K P k j) : 0 < WD (kn K) j d ∧ WD (kn K) j d ≤ 1728 := by
  have h1 := h.wd_b (m := 1) (by omega); have h2 := h.wd_b (m := 2) (by omega); have h3 := h.wd_b (m := 3) (by omega)
  unfold WD
  exact ⟨Nat.mul_pos (Nat.mul_pos h1.1 h2.1) h3.1, Nat.mul_le_mul (Nat.mul_le_mul h1.2 h2.2) h3.2⟩
theorem Ins.al_den {d : Nat} {K P : List Int} {k : Int} {j : Nat} (h : Ins d K P k j) (i : Nat) : (al (kn K) j k d i).den ∣ WD (kn K) j d := by
  unfold al
  split
  · exact Nat.one_dvd _
  · split
    · exact Nat.one_dvd _
    · rename_i c1 c2
      have hdj := h.dj
      have hd := h.V.hd
      have h1 := (h.le i).mpr (by omega)
      have h2 := kn_le h.V.mono (j + 1) (i + d) (by omega)
      have h3 := h.j2
      have key : ((kn K (i + d) - kn K i).natAbs) ∣ WD (kn K) j d := by
        obtain ⟨m, hm⟩ : ∃ m, i = j - d + m := ⟨i - (j - d), by omega⟩
        have e : (kn K (i + d) - kn K i).natAbs = wd (kn K) j d m := by
          unfold wd; rw [if_pos (by omega), hm]
        rw [e]
        unfold WD
        have : m = 1 ∨ m = 2 ∨ m = 3 := by omega
        rcases this with rfl | rfl | rfl
        · exact Nat.dvd_trans (Nat.dvd_mul_right _ _) (Nat.dvd_mul_right _ _)
        · exact Nat.dvd_trans (Nat.dvd_mul_left _ _) (Nat.dvd_mul_right _ _)
        · exact Nat.dvd_mul_left _ _
      refine Nat.dvd_trans (den_of_whole (z := k - kn K i) (by omega) ?_) key
      have e2 : (((kn K (i + d) - kn K i).natAbs : Nat) : Rat) = ((kn K (i + d) - kn K i : Int) : Rat) := by
        have : kn K (i + d) - kn K i = ((kn K (i + d) - kn K i).natAbs : Int) := by omega
        rw [this]; rfl
      have n1 := rne (show kn K (i + d) ≠ kn K i by omega)
      rw [e2]
      simp only [Rat.intCast_sub]
      grind
theorem Ins.pb_den {d : Nat} {K P : List Int} {k : Int} {j : Nat} (h : Ins d K P k j) (i : Nat) : (pb (kn K) j k d P.length (PR P) i).den ∣ (al (kn K) j k d i).den := by
  have hp := (al (kn K) j k d i).den_pos
  have w : ∀ z : Int, (al (kn K) j k d i * (z : Rat)).den ∣ (al (kn K) j k d i).den := fun z => by
    have := den_mul_dvd hp (show 0 < 1 by decide) (Nat.dvd_refl (al (kn K) j k d i).den) (show (z : Rat).den ∣ 1 by rw [(whole_num z).2]; exact Nat.dvd_refl 1)
    rwa [Nat.mul_one] at this
  have w2 : ∀ z : Int, ((1 - al (kn K) j k d i) * (z : Rat)).den ∣ (al (kn K) j k d i).den := fun z => by
    have := den_mul_dvd hp (show 0 < 1 by decide) (one_less (al (kn K) j k d i)).2 (show (z : Rat).den ∣ 1 by rw [(whole_num z).2]; exact Nat.dvd_refl 1)
    rwa [Nat.mul_one] at this
  unfold pb PR
  refine den_add_dvd hp ?_ ?_
  · split
    · exact w _
    · exact Nat.one_dvd _
  · split
    · exact w2 _
    · exact Nat.one_dvd _

/-! ### the law's sum -/
/-- the first poles of the longer knots times their curves -/
def ks (d : Nat) (K P : List Int) (k : Int) (j q : Nat) (t : Rat) (m : Nat) : Rat := sm m (fun i => pb (kn K) j k d P.length (PR P) i * Nb (kn (LK K j k)) q t d i)
theorem ks_all {d : Nat} {K P : List Int} {k : Int} {j : Nat} (h : Ins d K P k j) {t : Rat} {p q : Nat} (B : Bs d K P t p) (B2 : Bs d (LK K j k) (List.replicate (P.length + 1) 0) t q) : ks d K P k j q t (P.length + 1) = vs K P p t d P.length := by
  have hK := h.V.hK; have hjn := h.jn
  unfold ks vs
  rw [lk_fun k (by omega), ← knot_sum (ki_of h B B2) d (PR P) P.length]
  refine sm_congr _ (fun i _ => ?_)
  unfold PR; grind
theorem sm_mono {f : Nat → Rat} (h : ∀ i, 0 ≤ f i) {m n : Nat} (hmn : m ≤ n) : sm m f ≤ sm n f := by
  induction n with
  | zero => rw [show m = 0 by omega]; exact Rat.le_refl
  | succ n ih =>
    by_cases e : m = n + 1
    · rw [e]; exact Rat.le_refl
    · have := ih (by omega)
      rw [sm]
      have := h n
      grind
theorem sm_50 {f g : Nat → Rat} : ∀ m, (∀ i, i < m → -50 ≤ f i ∧ f i ≤ 50) → (∀ i, 0 ≤ g i) → -50 * sm m g ≤ sm m (fun i => f i * g i) ∧ sm m (fun i => f i * g i) ≤ 50 * sm m g
  | 0, _, _ => by simp only [sm]; grind
  | m + 1, hf, hg => by
    have ih := sm_50 m (fun i hi => hf i (by omega)) hg
    have h1 := hf m (by omega)
    have e1 := Rat.mul_le_mul_of_nonneg_right h1.1 (hg m)
    have e2 := Rat.mul_le_mul_of_nonneg_right h1.2 (hg m)
    simp only [sm]
    constructor <;> grind
theorem ks_term {d : Nat} {K P : List Int} {k : Int} {j : Nat} (h : Ins d K P k j) {t : Rat} {q : Nat} (B2 : Bs d (LK K j k) (List.replicate (P.length + 1) 0) t q) {i : Nat} (hi : i ≤ P.length) :
    Sm (WD (kn K) j d * DB (LK K j k) t q d) 50 (pb (kn K) j k d P.length (PR P) i * Nb (kn (LK K j k)) q t d i) := by
  have nb := B2.sm d i (Nat.le_refl _)
  have n0 := nb_nonneg B2.pc d i
  have n1 := nb_le_one B2.pc d i B2.c.dp
  obtain ⟨b1, b2⟩ := h.pb_50 hi
  have o50 : (((50 : Nat) : Rat)) = 50 := rfl
  have e1 := Rat.mul_le_mul_of_nonneg_right b1 n0
  have e2 := Rat.mul_le_mul_of_nonneg_right b2 n0
  refine ⟨den_mul_dvd h.WD_b.1 (B2.pos d) (Nat.dvd_trans (h.pb_den i) (h.al_den i)) nb.1, ?_, ?_⟩
  · rw [o50]; grind
  · rw [o50]; grind
theorem ks_sm {d : Nat} {K P : List Int} {k : Int} {j : Nat} (h : Ins d K P k j) {t : Rat} {q : Nat} (B2 : Bs d (LK K j k) (List.replicate (P.length + 1) 0) t q) {m : Nat} (hm : m ≤ P.length + 1) :
    Sm (WD (kn K) j d * DB (LK K j k) t q d) 50 (ks d K P k j q t m) := by
  have hD := Nat.mul_pos h.WD_b.1 (B2.pos d)
  have n0 := nb_nonneg B2.pc d
  have s1 := sm_50 (g := Nb (kn (LK K j k)) q t d) m (fun i hi => h.pb_50 (i := i) (by omega)) n0
  have c := B2.c.pn
  have s2 := sm_mono n0 hm
  rw [nb_sum B2.pc d (P.length + 1) (by rw [List.length_replicate] at c; exact c) B2.c.dp] at s2
  have o50 : (((50 : Nat) : Rat)) = 50 := rfl
  refine ⟨den_sum hD m (fun i hi => (ks_term h B2 (by omega)).1), ?_, ?_⟩
  · rw [o50]; unfold ks; grind
  · rw [o50]; unfold ks; grind
end Go.Proofs.Ytpnocmkpeogifaa.Pure
