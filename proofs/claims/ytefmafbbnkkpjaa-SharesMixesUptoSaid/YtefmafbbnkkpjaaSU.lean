/- Hall's theorem: rows of numbers with one sum in each row and each column have a permutation all of whose numbers are above 0. -/

namespace Go.Proofs.Ytefmafbbnkkpjaa.Hall
/-- how many numbers below n have a property -/
def cd (n : Nat) (P : Nat → Bool) : Nat := (List.range n).countP P
theorem cd_mono {n : Nat} {P Q : Nat → Bool} (h : ∀ c, P c = true → Q c = true) : cd n P ≤ cd n Q :=
  List.countP_mono_left fun c _ => h c
theorem countP_or (P Q : Nat → Bool) : ∀ l : List Nat, l.countP (fun c => P c || Q c) ≤ l.countP P + l.countP Q
  | [] => by simp
  | a :: l => by
    have := countP_or P Q l
    simp only [List.countP_cons]
    cases P a <;> cases Q a <;> simp <;> omega
theorem cd_or (n : Nat) (P Q : Nat → Bool) : cd n (fun c => P c || Q c) ≤ cd n P + cd n Q := countP_or P Q _
theorem countP_one (c : Nat) : ∀ l : List Nat, l.Nodup → l.countP (fun d => d == c) ≤ 1
  | [], _ => by simp
  | a :: l, h => by
    have h := List.nodup_cons.mp h
    rw [List.countP_cons]
    by_cases e : a = c
    · subst e
      have : l.countP (fun d => d == a) = 0 := by
        rw [List.countP_eq_zero]
        intro d hd hda
        have := eq_of_beq hda
        subst this
        exact h.1 hd
      simp [this]
    · have := countP_one c l h.2
      simp [e]; simpa using this
theorem cd_one (n c : Nat) : cd n (fun d => d == c) ≤ 1 := countP_one c _ List.nodup_range
theorem cd_pos {n : Nat} {P : Nat → Bool} (h : 1 ≤ cd n P) : ∃ c, c < n ∧ P c = true := by
  obtain ⟨c, hc, hp⟩ := List.countP_pos_iff.mp (show 0 < (List.range n).countP P from h)
  exact ⟨c, List.mem_range.mp hc, hp⟩

/-- a column that is above 0 -/
def up (r : List Int) (c : Nat) : Bool := decide (0 < r.getD c 0)
/-- rows that can be given different columns, out of those of C -/
def Mt (n : Nat) : List (List Int) → (Nat → Bool) → Prop
  | [], _ => True
  | r :: rs, C => ∃ c, c < n ∧ C c = true ∧ up r c = true ∧ Mt n rs (fun d => C d && d != c)
theorem Mt.mono {n : Nat} : ∀ {rs : List (List Int)} {C D : Nat → Bool}, (∀ c, C c = true → D c = true) → Mt n rs C → Mt n rs D
  | [], _, _, _, _ => trivial
  | r :: rs, C, D, h, ⟨c, h1, h2, h3, h4⟩ => ⟨c, h1, h c h2, h3, Mt.mono (fun d hd => by
      simp only [Bool.and_eq_true] at hd ⊢
      exact ⟨h d hd.1, hd.2⟩) h4⟩
theorem Mt.perm {n : Nat} {a b : List (List Int)} (h : a.Perm b) : ∀ {C : Nat → Bool}, Mt n a C → Mt n b C := by
  induction h with
  | nil => exact fun h => h
  | cons x _ ih => exact fun ⟨c, h1, h2, h3, h4⟩ => ⟨c, h1, h2, h3, ih h4⟩
  | swap x y l =>
    intro C ⟨c, h1, h2, h3, d, g1, g2, g3, g4⟩
    simp only [Bool.and_eq_true] at g2
    have ne : d ≠ c := by simpa using g2.2
    refine ⟨d, g1, g2.1, g3, c, h1, ?_, h3, Mt.mono (fun e he => ?_) g4⟩
    · simp [h2]; exact fun h => ne h.symm
    · simp only [Bool.and_eq_true] at he ⊢
      exact ⟨⟨he.1.1, he.2⟩, he.1.2⟩
  | trans _ _ ih1 ih2 => exact fun h => ih2 (ih1 h)
theorem Mt.append {n : Nat} {T : List (List Int)} : ∀ {S : List (List Int)} {C D : Nat → Bool}, Mt n S C → (∀ d, D d = true → C d = true) → (∀ d, D d = true → ∀ r ∈ S, up r d = false) → Mt n T D → Mt n (S ++ T) C
  | [], _, _, _, h, _, ht => ht.mono h
  | r :: S, C, D, ⟨c, h1, h2, h3, h4⟩, hD, hS, ht => by
    refine ⟨c, h1, h2, h3, Mt.append h4 (fun d hd => ?_) (fun d hd r' hr' => hS d hd r' (List.mem_cons_of_mem _ hr')) ht⟩
    have hr := hS d hd r List.mem_cons_self
    simp only [Bool.and_eq_true]
    refine ⟨hD d hd, ?_⟩
    simp only [bne_iff_ne, ne_eq]
    intro e
    subst e
    rw [h3] at hr
    exact absurd hr (by decide)
def Ha (n : Nat) (rows : List (List Int)) (C : Nat → Bool) : Prop :=
  ∀ (S T : List (List Int)), (S ++ T).Perm rows → S.length ≤ cd n (fun c => C c && S.any (fun r => up r c))
/-- Hall's theorem -/
theorem hall (n : Nat) : ∀ (m : Nat) (rows : List (List Int)) (C : Nat → Bool), rows.length ≤ m → Ha n rows C → Mt n rows C := by
  intro m
  induction m with
  | zero =>
    intro rows C hm h
    obtain rfl : rows = [] := List.length_eq_zero_iff.mp (by omega)
    trivial
  | succ m ih =>
    intro rows C hm h
    cases rows with
    | nil => trivial
    | cons r rs =>
      by_cases hA : ∃ (S T : List (List Int)), (S ++ T).Perm (r :: rs) ∧ S ≠ [] ∧ T ≠ [] ∧ cd n (fun c => C c && S.any (fun r => up r c)) ≤ S.length
      · obtain ⟨S, T, hp, hS, hT, hc⟩ := hA
        have hl := hp.length_eq
        rw [List.length_append, List.length_cons] at hl
        rw [List.length_cons] at hm
        have hS0 : 0 < S.length := List.length_pos_iff.mpr hS
        have hT0 : 0 < T.length := List.length_pos_iff.mpr hT
        have mS : Mt n S C := ih S C (by omega) fun U V hUV => h U (V ++ T) (by
          rw [← List.append_assoc]
          exact (hUV.append_right T).trans hp)
        have mT : Mt n T (fun c => C c && !(S.any fun r => up r c)) := ih T _ (by omega) fun U V hUV => by
          have h1 := h (U ++ S) V (by
            refine List.Perm.trans ?_ hp
            rw [List.append_assoc]
            refine (List.perm_append_comm_assoc U S V).trans ?_
            exact (List.Perm.refl S).append hUV)
          have h2 : cd n (fun c => C c && (U ++ S).any fun r => up r c) ≤ cd n (fun c => C c && S.any fun r => up r c) + cd n (fun c => (C c && !(S.any fun r => up r c)) && U.any fun r => up r c) := by
            refine Nat.le_trans (cd_mono fun c hc => ?_) (cd_or n _ _)
            simp only [List.any_append] at hc
            cases hC : C c <;> cases hU : (U.any fun r => up r c) <;> cases hSS : (S.any fun r => up r c) <;> simp [hC, hU, hSS] at hc ⊢
          rw [List.length_append] at h1
          omega
        exact (Mt.append mS (fun d hd => by simp only [Bool.and_eq_true] at hd; exact hd.1) (fun d hd r' hr' => by
          simp only [Bool.and_eq_true, Bool.not_eq_true', List.any_eq_false] at hd
          simpa using hd.2 r' hr') mT).perm hp
      · have h1 := h [r] rs (by simp)
        obtain ⟨c, hc, hcc⟩ := cd_pos h1
        simp at hcc
        refine ⟨c, hc, hcc.1, hcc.2, ih rs _ (by simp at hm; omega) fun S T hST => ?_⟩
        by_cases hS : S = []
        · subst hS; simp
        · have h2 : ¬ cd n (fun c => C c && S.any (fun r => up r c)) ≤ S.length := fun h2 => hA ⟨S, T ++ [r], by
            rw [← List.append_assoc]
            exact (List.perm_append_singleton r (S ++ T)).trans (hST.cons r), hS, by simp, h2⟩
          have h3 : cd n (fun c => C c && S.any fun r => up r c) ≤ cd n (fun d => (C d && d != c) && S.any fun r => up r d) + cd n (fun d => d == c) := by
            refine Nat.le_trans (cd_mono fun d hd => ?_) (cd_or n _ _)
            by_cases e : d = c
            · simp [e]
            · simp only [Bool.and_eq_true] at hd
              simp [e, hd.1, hd.2]
          have := cd_one n c
          omega
/-! rows of numbers with one sum in each row and each column -/
theorem perm_sum {a b : List Int} (h : a.Perm b) : a.sum = b.sum := by
  induction h with
  | nil => rfl
  | cons x _ ih => simp [ih]
  | swap x y l => simp; omega
  | trans _ _ h1 h2 => exact h1.trans h2
end Go.Proofs.Ytefmafbbnkkpjaa.Hall
