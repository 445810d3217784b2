/- The sum over all orders, plain: it is the same along the shares as along the powered numbers; even shares have less of it (Muirhead). -/
import Derived.Test.YtefmafbbnkkpjaaSM
namespace Go.Proofs.Ytefmafbbnkkpjaa.Pure
open Go Go.RowKit Go.Proofs.Ytefmafbbnkkpjaa.X
set_option linter.unusedVariables false
set_option linter.unusedSimpArgs false

/-- the sum over the ways to take one number out -/
def sp (F : Int → List Int → Int) : List Int → Int
  | [] => 0
  | x :: l => F x l + sp (fun y r => F y (x :: r)) l
/-- the sum over all orders of products of powers -/
def PS : List Int → List Int → Int
  | [], x => if x = [] then 1 else 0
  | b :: a, x => sp (fun y r => b ^ y.toNat * PS a r) x

theorem sp_congr : ∀ (l : List Int) {F G : Int → List Int → Int}, (∀ y r, F y r = G y r) → sp F l = sp G l
  | [], _, _, _ => rfl
  | x :: l, F, G, h => by
    simp only [sp]
    rw [h x l, sp_congr l (fun y r => h y (x :: r))]
theorem sp_add : ∀ (l : List Int) (F G : Int → List Int → Int), sp (fun y r => F y r + G y r) l = sp F l + sp G l
  | [], _, _ => rfl
  | x :: l, F, G => by
    simp only [sp]
    rw [sp_add l (fun y r => F y (x :: r)) (fun y r => G y (x :: r))]; omega
theorem sp_mul (c : Int) : ∀ (l : List Int) (F : Int → List Int → Int), sp (fun y r => c * F y r) l = c * sp F l
  | [], _ => by simp [sp]
  | x :: l, F => by
    simp only [sp]
    rw [sp_mul c l (fun y r => F y (x :: r)), Int.mul_add]
theorem sp_zero : ∀ (l : List Int), sp (fun _ _ => 0) l = 0
  | [] => rfl
  | x :: l => by simp only [sp]; rw [sp_zero l]; rfl
/-- two such sums change places -/
theorem sp_swap (H : Int → List Int → Int → List Int → Int) : ∀ (l m : List Int), sp (fun y r => sp (fun z s => H y r z s) m) l = sp (fun z s => sp (fun y r => H y r z s) l) m
  | [], m => by simp only [sp]; exact (sp_zero m).symm
  | x :: l, m => by
    simp only [sp]
    rw [sp_swap (fun y r z s => H y (x :: r) z s) l m, sp_add]
/-- the sum does not depend on the order, where its terms do not -/
theorem sp_perm {l m : List Int} (h : l.Perm m) : ∀ {F : Int → List Int → Int}, (∀ y r s, r.Perm s → F y r = F y s) → sp F l = sp F m := by
  induction h with
  | nil => intro F _; rfl
  | cons x h ih =>
    intro F hF
    simp only [sp]
    rw [hF x _ _ h, ih (F := fun y r => F y (x :: r)) (fun y r s hr => hF y _ _ (List.Perm.cons x hr))]
  | swap x y l =>
    intro F hF
    simp only [sp]
    rw [sp_congr l (F := fun z r => F z (y :: x :: r)) (G := fun z r => F z (x :: y :: r)) (fun z r => hF z _ _ (List.Perm.swap _ _ _))]
    omega
  | trans _ _ h1 h2 => intro F hF; rw [h1 hF, h2 hF]
theorem PS_perm : ∀ (a : List Int) {x y : List Int}, x.Perm y → PS a x = PS a y
  | [], x, y, h => by
    simp only [PS]
    by_cases e : x = []
    · subst e; have := List.Perm.nil_eq h; subst this; rfl
    · have : y ≠ [] := by rintro rfl; exact e (List.Perm.eq_nil h)
      rw [if_neg e, if_neg this]
  | b :: a, x, y, h => by
    simp only [PS]
    exact sp_perm h fun z r s hr => by rw [PS_perm a hr]
/-- along the shares -/
theorem PS_along (p : Int) : ∀ (a x : List Int), PS a (p :: x) = sp (fun b s => b ^ p.toNat * PS s x) a
  | [], x => by simp [PS, sp]
  | b :: a, x => by
    have e : PS (b :: a) (p :: x) = b ^ p.toNat * PS a x + sp (fun y r => b ^ y.toNat * PS a (p :: r)) x := by simp only [PS, sp]
    rw [e]
    simp only [sp]
    congr 1
    have h1 : sp (fun y r => b ^ y.toNat * PS a (p :: r)) x = sp (fun y r => sp (fun c s => c ^ p.toNat * (b ^ y.toNat * PS s r)) a) x := by
      refine sp_congr x fun y r => ?_
      rw [PS_along p a r, ← sp_mul]
      exact sp_congr a fun c s => Int.mul_left_comm _ _ _
    rw [h1, sp_swap]
    refine sp_congr a fun c s => ?_
    rw [sp_mul]
    simp only [PS]
/-- two numbers taken out -/
def dp (f : Int → Int → List Int → Int) (a : List Int) : Int := sp (fun b s => sp (fun c t => f b c t) s) a
theorem dp_cons (f : Int → Int → List Int → Int) (x : Int) (l : List Int) : dp f (x :: l) = sp (fun c t => f x c t) l + (sp (fun b s => f b x s) l + dp (fun b c t => f b c (x :: t)) l) := by
  unfold dp
  simp only [sp]
  rw [sp_add]
theorem dp_sym (f : Int → Int → List Int → Int) : ∀ a, dp f a = dp (fun b c t => f c b t) a
  | [] => rfl
  | x :: l => by
    rw [dp_cons, dp_cons, dp_sym (fun b c t => f b c (x :: t)) l]
    omega
theorem dp_add (f g : Int → Int → List Int → Int) (a : List Int) : dp (fun b c t => f b c t + g b c t) a = dp f a + dp g a := by
  unfold dp
  rw [← sp_add]
  exact sp_congr a fun b s => sp_add s _ _
theorem sp_mono : ∀ (l : List Int) {F G : Int → List Int → Int}, (∀ y r, y ∈ l → (∀ z ∈ r, z ∈ l) → F y r ≤ G y r) → sp F l ≤ sp G l
  | [], _, _, _ => Int.le_refl _
  | x :: l, F, G, h => by
    simp only [sp]
    have h1 := h x l (by simp) (fun z hz => by simp [hz])
    have h2 := sp_mono l (F := fun y r => F y (x :: r)) (G := fun y r => G y (x :: r)) (fun y r hy hr => h y (x :: r) (by simp [hy]) (fun z hz => by
      rcases List.mem_cons.mp hz with e | e
      · simp [e]
      · simp [hr z e]))
    omega
theorem dp_mono {a : List Int} {f g : Int → Int → List Int → Int} (h : ∀ b c t, b ∈ a → c ∈ a → (∀ z ∈ t, z ∈ a) → f b c t ≤ g b c t) : dp f a ≤ dp g a :=
  sp_mono a fun b s hb hs => sp_mono s fun c t hc ht => h b c t hb (hs c hc) fun z hz => hs z (ht z hz)
theorem sp_nonneg (l : List Int) {F : Int → List Int → Int} (h : ∀ y r, y ∈ l → (∀ z ∈ r, z ∈ l) → 0 ≤ F y r) : 0 ≤ sp F l := by
  have := sp_mono l (F := fun _ _ => 0) h
  rwa [sp_zero] at this
theorem pow_nonneg' {b : Int} (h : 0 ≤ b) : ∀ n : Nat, 0 ≤ b ^ n
  | 0 => by simp
  | n + 1 => by rw [Int.pow_succ]; exact Int.mul_nonneg (pow_nonneg' h n) h
theorem pow_mono' {b c : Int} (hc : 0 ≤ c) (h : c ≤ b) : ∀ n : Nat, c ^ n ≤ b ^ n
  | 0 => by simp
  | n + 1 => by
    rw [Int.pow_succ, Int.pow_succ]
    exact Int.mul_le_mul (pow_mono' hc h n) h hc (pow_nonneg' (Int.le_trans hc h) n)
theorem PS_nonneg : ∀ (a x : List Int), (∀ b ∈ a, 0 ≤ b) → 0 ≤ PS a x
  | [], x, _ => by simp only [PS]; split <;> decide
  | b :: a, x, h => by
    simp only [PS]
    exact sp_nonneg x fun y r _ _ => Int.mul_nonneg (pow_nonneg' (h b (by simp)) _) (PS_nonneg a r fun c hc => h c (by simp [hc]))
theorem two_pows {b c : Int} (hb : 0 ≤ b) (hc : 0 ≤ c) (q m e : Nat) : b ^ (q + m + e) * c ^ (q + m) + c ^ (q + m + e) * b ^ (q + m) ≤ b ^ (q + 2 * m + e) * c ^ q + c ^ (q + 2 * m + e) * b ^ q := by
  have key : ∀ {b c : Int}, 0 ≤ c → c ≤ b → b ^ (m + e) * c ^ m + c ^ (m + e) * b ^ m ≤ b ^ (m + e) * b ^ m + c ^ (m + e) * c ^ m := by
    intro b c hc h
    have h1 := pow_mono' hc h m
    have h2 := pow_mono' hc h (m + e)
    have h3 := Int.mul_nonneg (show 0 ≤ b ^ (m + e) - c ^ (m + e) by omega) (show 0 ≤ b ^ m - c ^ m by omega)
    rw [Int.sub_mul, Int.mul_sub, Int.mul_sub] at h3
    omega
  have both : b ^ (m + e) * c ^ m + c ^ (m + e) * b ^ m ≤ b ^ (m + e) * b ^ m + c ^ (m + e) * c ^ m := by
    rcases Int.le_total c b with h | h
    · exact key hc h
    · have := key hb h
      omega
  have hq : 0 ≤ b ^ q * c ^ q := Int.mul_nonneg (pow_nonneg' hb q) (pow_nonneg' hc q)
  have h4 := Int.mul_le_mul_of_nonneg_left both hq
  rw [Int.mul_add, Int.mul_add] at h4
  have e1 : b ^ (q + m + e) * c ^ (q + m) = b ^ q * c ^ q * (b ^ (m + e) * c ^ m) := by
    simp only [Int.pow_add]; ac_rfl
  have e2 : c ^ (q + m + e) * b ^ (q + m) = b ^ q * c ^ q * (c ^ (m + e) * b ^ m) := by
    simp only [Int.pow_add]; ac_rfl
  have e3 : b ^ (q + 2 * m + e) * c ^ q = b ^ q * c ^ q * (b ^ (m + e) * b ^ m) := by
    rw [show q + 2 * m + e = q + m + m + e by omega]; simp only [Int.pow_add]; ac_rfl
  have e4 : c ^ (q + 2 * m + e) * b ^ q = b ^ q * c ^ q * (c ^ (m + e) * c ^ m) := by
    rw [show q + 2 * m + e = q + m + m + e by omega]; simp only [Int.pow_add]; ac_rfl
  rw [e1, e2, e3, e4]
  exact h4
theorem PS_two (p q : Int) (r a : List Int) : PS a (p :: q :: r) = dp (fun b c t => b ^ p.toNat * (c ^ q.toNat * PS t r)) a := by
  rw [PS_along]
  unfold dp
  refine sp_congr a fun b s => ?_
  rw [PS_along, ← sp_mul]
/-- one give lessens the sum -/
theorem PS_give {p q m : Int} (hq : 0 ≤ q) (hm : 0 ≤ m) (h : 2 * m ≤ p - q) (r a : List Int) (ha : ∀ b ∈ a, 0 ≤ b) : PS a ((p - m) :: (q + m) :: r) ≤ PS a (p :: q :: r) := by
  rw [PS_two, PS_two]
  have hs := fun f => dp_sym f a
  have d1 : 2 * dp (fun b c t => b ^ (p - m).toNat * (c ^ (q + m).toNat * PS t r)) a = dp (fun b c t => b ^ (p - m).toNat * (c ^ (q + m).toNat * PS t r) + c ^ (p - m).toNat * (b ^ (q + m).toNat * PS t r)) a := by
    rw [dp_add, ← hs (fun b c t => b ^ (p - m).toNat * (c ^ (q + m).toNat * PS t r))]; omega
  have d2 : 2 * dp (fun b c t => b ^ p.toNat * (c ^ q.toNat * PS t r)) a = dp (fun b c t => b ^ p.toNat * (c ^ q.toNat * PS t r) + c ^ p.toNat * (b ^ q.toNat * PS t r)) a := by
    rw [dp_add, ← hs (fun b c t => b ^ p.toNat * (c ^ q.toNat * PS t r))]; omega
  have hd : dp (fun b c t => b ^ (p - m).toNat * (c ^ (q + m).toNat * PS t r) + c ^ (p - m).toNat * (b ^ (q + m).toNat * PS t r)) a ≤ dp (fun b c t => b ^ p.toNat * (c ^ q.toNat * PS t r) + c ^ p.toNat * (b ^ q.toNat * PS t r)) a := by
    refine dp_mono fun b c t hb hc ht => ?_
    have h0 : 0 ≤ PS t r := PS_nonneg t r fun z hz => ha z (ht z hz)
    have k := two_pows (ha b hb) (ha c hc) q.toNat m.toNat (p - q - 2 * m).toNat
    have e1 : q.toNat + m.toNat + (p - q - 2 * m).toNat = (p - m).toNat := by omega
    have e2 : q.toNat + m.toNat = (q + m).toNat := by omega
    have e3 : q.toNat + 2 * m.toNat + (p - q - 2 * m).toNat = p.toNat := by omega
    rw [e1, e2, e3] at k
    have k2 := Int.mul_le_mul_of_nonneg_right k h0
    rw [Int.add_mul, Int.add_mul] at k2
    simp only [Int.mul_assoc] at k2
    exact k2
  omega

/-! ### a chain of gives -/
theorem step_any {x y : List Int} (hxy : x.length = y.length) : ∀ d i j, j = i + 1 + d → j < x.length → y.getD i 0 < x.getD i 0 → x.getD j 0 < y.getD j 0 → ∃ i' j', Step x y i' j' := by
  intro d
  induction d using Nat.strongRecOn with
  | _ d ih =>
    intro i j hj hjl h1 h2
    by_cases hs : ∀ k, i < k → k < j → x.getD k 0 = y.getD k 0
    · exact ⟨i, j, by omega, hjl, h1, h2, hs⟩
    · have hex : ∃ k, i < k ∧ k < j ∧ x.getD k 0 ≠ y.getD k 0 := by
        refine Classical.byContradiction fun hn => hs fun k a b => ?_
        exact Classical.byContradiction fun hc => hn ⟨k, a, b, hc⟩
      obtain ⟨k, ka, kb, kc⟩ := hex
      rcases Int.lt_or_gt_of_ne kc with c | c
      · exact ih (k - i - 1) (by omega) i k (by omega) (by omega) h1 c
      · exact ih (j - k - 1) (by omega) k j (by omega) hjl c h2
theorem way_step {x y : List Int} (w : Way x y) (h : x ≠ y) : ∃ i j, Step x y i j := by
  refine Classical.byContradiction fun hn => h (way_end w fun i j hij hj h1 h2 => hn ?_)
  exact step_any w.hl (j - i - 1) i j (by omega) hj h1 h2
theorem PS_way {y : List Int} (a : List Int) (ha : ∀ b ∈ a, 0 ≤ b) : ∀ (d : Nat) (x : List Int), Nn x → Way x y → far x y x.length ≤ d → PS a y ≤ PS a x := by
  intro d
  induction d with
  | zero =>
    intro x hx w hf
    by_cases e : x = y
    · subst e; exact Int.le_refl _
    · obtain ⟨i, j, s⟩ := way_step w e
      have h1 := step_far w s
      have h2 := far_nonneg (give x i j (much x y i j)) y x.length
      omega
  | succ d ih =>
    intro x hx w hf
    by_cases e : x = y
    · subst e; exact Int.le_refl _
    · obtain ⟨i, j, s⟩ := way_step w e
      have h1 := step_far w s
      have m := step_may w s
      obtain ⟨r, p1, p2⟩ := give_perm m
      have hq : 0 ≤ x.getD j 0 := hx _ (p1.symm.subset (by simp))
      have hn : Nn (give x i j (much x y i j)) := fun z hz => by
        have b : ∀ z ∈ x, 0 ≤ z ∧ z ≤ x.sum.natAbs + 1 + z.natAbs := fun z hz => ⟨hx z hz, by omega⟩
        have h1 := m.m1
        have h2 := m.two
        rcases List.mem_cons.mp (p2.subset hz) with e | e
        · omega
        · rcases List.mem_cons.mp e with e | e
          · omega
          · exact hx z (p1.symm.subset (by simp [e]))
      have IH := ih (give x i j (much x y i j)) hn (step_way w s) (by rw [give_len]; omega)
      refine Int.le_trans IH ?_
      rw [PS_perm a p1, PS_perm a p2]
      exact PS_give hq (by have := m.m1; omega) m.two r a ha
/-- Muirhead -/
theorem muirhead {x y a : List Int} (hx : Nn x) (hl : x.length = y.length) (ha : ∀ b ∈ a, 0 ≤ b) (h : Maj x y) : PS a y ≤ PS a x := by
  rw [← PS_perm a (D_perm x), ← PS_perm a (D_perm y)]
  have w : Way (insAll x) (insAll y) := ⟨by rw [D_length, D_length, hl], D_desc y, h.1, by rw [sum_perm (D_perm x), sum_perm (D_perm y)]; exact h.2⟩
  have hf := far_nonneg (insAll x) (insAll y) (insAll x).length
  exact PS_way a ha (far (insAll x) (insAll y) (insAll x).length).toNat _ (Nn_perm (D_perm x).symm hx) w (by omega)
end Go.Proofs.Ytefmafbbnkkpjaa.Pure
