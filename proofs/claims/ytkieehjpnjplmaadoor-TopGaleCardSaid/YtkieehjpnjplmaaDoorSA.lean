/- Shares and parts as plain lists: falling order, first sums, at least as uneven, parts turned over; what Uneven and Turn return (turned from this work's texts of another seat). -/
import Derived.Test.YtkieehjpnjplmaaDoorE45b
import Derived.Test.YtkieehjpnjplmaaDoorXG4a
import Derived.Test.YtkieehjpnjplmaaDoorXf11
import Derived.Test.YtkieehjpnjplmaaDoorXf23
namespace Go.Proofs.YtkieehjpnjplmaaDoor.Pure
open Go Go.RowKit Go.Shelf Go.Sort Go.Lib Go.Proofs.YtkieehjpnjplmaaDoor Go.Proofs.YtkieehjpnjplmaaDoor.X Go.Proofs.YtkieehjpnjplmaaDoorW.PrintWords Go.Proofs.YtkieehjpnjplmaaDoorW.PrintLast
set_option linter.unusedVariables false
set_option linter.unusedSimpArgs false

/-- How many of the first numbers are not less than x. -/
def insAt (x : Int) : List Int → Nat
  | [] => 0
  | y :: l => if x ≤ y then insAt x l + 1 else 0
def ins (l : List Int) (x : Int) : List Int := (l.take (insAt x l) ++ [x]) ++ l.drop (insAt x l)
def insAll (l : List Int) : List Int := l.foldl ins []
def Desc (l : List Int) : Prop := l.Pairwise (fun a b => b ≤ a)
theorem desc_unique : ∀ (a b : List Int), a.Perm b → Desc a → Desc b → a = b
  | [], b, h, _, _ => (List.Perm.nil_eq h)
  | x :: a, [], h, _, _ => by have := h.length_eq; simp at this
  | x :: a, y :: b, h, ha, hb => by
    have ha' := List.pairwise_cons.mp ha
    have hb' := List.pairwise_cons.mp hb
    have hx : x ∈ y :: b := h.subset (List.mem_cons_self)
    have hy : y ∈ x :: a := h.symm.subset (List.mem_cons_self)
    have h1 : x ≤ y := by
      rcases List.mem_cons.mp hx with e | e
      · omega
      · exact hb'.1 x e
    have h2 : y ≤ x := by
      rcases List.mem_cons.mp hy with e | e
      · omega
      · exact ha'.1 y e
    have e : x = y := by omega
    subst e
    rw [desc_unique a b (List.Perm.cons_inv h) ha'.2 hb'.2]

theorem ins_nil (x : Int) : ins [] x = [x] := rfl
theorem ins_cons (y : Int) (l : List Int) (x : Int) : ins (y :: l) x = if x ≤ y then y :: ins l x else x :: y :: l := by
  unfold ins
  by_cases h : x ≤ y
  · rw [insAt, if_pos h, if_pos h]; simp
  · rw [insAt, if_neg h, if_neg h]; simp
theorem ins_perm (x : Int) : ∀ l, (ins l x).Perm (x :: l)
  | [] => List.Perm.refl _
  | y :: l => by
    rw [ins_cons]
    split
    · exact (List.Perm.cons y (ins_perm x l)).trans (List.Perm.swap x y l)
    · exact List.Perm.refl _
theorem ins_desc (x : Int) : ∀ l, Desc l → Desc (ins l x)
  | [], _ => by simp [ins_nil, Desc]
  | y :: l, h => by
    have h' := List.pairwise_cons.mp h
    rw [ins_cons]
    split
    · rename_i c
      refine List.pairwise_cons.mpr ⟨fun z hz => ?_, ins_desc x l h'.2⟩
      rcases List.mem_cons.mp ((ins_perm x l).subset hz) with e | e
      · omega
      · exact h'.1 z e
    · rename_i c
      refine List.pairwise_cons.mpr ⟨fun z hz => ?_, h⟩
      rcases List.mem_cons.mp hz with e | e
      · omega
      · have := h'.1 z e; omega
theorem foldl_perm : ∀ (l a : List Int), (l.foldl ins a).Perm (a ++ l)
  | [], a => by simp
  | x :: l, a => by
    rw [List.foldl_cons]
    refine (foldl_perm l _).trans ?_
    refine ((ins_perm x a).append_right l).trans ?_
    simpa using (List.perm_middle (a := x) (l₁ := a) (l₂ := l)).symm
theorem foldl_desc : ∀ (l a : List Int), Desc a → Desc (l.foldl ins a)
  | [], a, h => h
  | x :: l, a, h => foldl_desc l _ (ins_desc x a h)
/-- The numbers in falling order. -/
theorem D_perm (l : List Int) : (insAll l).Perm l := by simpa [insAll] using foldl_perm l []
theorem D_desc (l : List Int) : Desc (insAll l) := foldl_desc l [] (by simp [Desc])
theorem D_length (l : List Int) : (insAll l).length = l.length := (D_perm l).length_eq
theorem D_of_desc {l : List Int} (h : Desc l) : insAll l = l := desc_unique _ _ (D_perm l) (D_desc l) h
def Bd (d : Array Int) : Prop := ∀ i : Nat, 0 ≤ d[i]! ∧ d[i]! ≤ 1000
def dn (x y : Int) : Int := y - x
theorem lt_same {x y : Int} (hx : 0 ≤ x ∧ x ≤ 1000) (hy : 0 ≤ y ∧ y ≤ 1000) : ltOf Vi.down x y = ltOf dn x y := by
  unfold ltOf Vi.down dn
  rw [show wrap64 (y - x) = y - x by unfold wrap64; omega]
theorem set_get (d : Array Int) (i k : Nat) (v : Int) : (d.setIfInBounds i v)[k]! = if i = k ∧ k < d.size then v else d[k]! := by
  simp only [getElem!_def, Array.getElem?_setIfInBounds]
  by_cases e : i = k
  · subst e
    by_cases h : i < d.size
    · simp [h]
    · simp [h]
  · simp [e]
theorem swp_bd {d : Array Int} (h : Bd d) (i j : Nat) : Bd (swp d i j) := by
  intro k
  unfold swp
  rw [set_get, set_get]
  split
  · exact h i
  · split
    · exact h j
    · exact h k
theorem inner_same (a : Nat) : ∀ (j : Nat) (d : Array Int), Bd d → insInner (ltOf Vi.down) a j d = insInner (ltOf dn) a j d ∧ Bd (insInner (ltOf dn) a j d)
  | 0, d, h => ⟨rfl, h⟩
  | j + 1, d, h => by
    unfold insInner
    rw [lt_same (h (j + 1)) (h j)]
    split
    · exact inner_same a j _ (swp_bd h _ _)
    · exact ⟨rfl, h⟩
theorem outer_same (a b : Nat) : ∀ (n i : Nat) (d : Array Int), b - i = n → Bd d → insOuter (ltOf Vi.down) a b i d = insOuter (ltOf dn) a b i d := by
  intro n
  induction n with
  | zero =>
    intro i d h hb
    have h' : ¬ i < b := by omega
    unfold insOuter
    rw [if_neg h', if_neg h']
  | succ n ih =>
    intro i d h hb
    have := inner_same a i d hb
    rw [insOuter, if_pos (by omega)]
    conv => rhs; rw [insOuter, if_pos (by omega)]
    rw [this.1]
    exact ih _ _ (by omega) this.2
theorem dn_swo : SWO (ltOf dn) where
  irrefl := fun x => by simp [ltOf, dn]
  trans := fun x y z h1 h2 => by
    have a1 : y - x < 0 := of_decide_eq_true h1
    have a2 : z - y < 0 := of_decide_eq_true h2
    exact decide_eq_true (show z - x < 0 by omega)
  ntrans := fun x y z h1 h2 => by
    have a1 : ¬ y - x < 0 := of_decide_eq_false h1
    have a2 : ¬ z - y < 0 := of_decide_eq_false h2
    exact decide_eq_false (show ¬ z - x < 0 by omega)
theorem fall_eq (l : List Int) (hb : ∀ x ∈ l, 0 ≤ x ∧ x ≤ 1000) : Vi.fall l = insAll l := by
  have hB : Bd l.toArray := by
    intro i
    by_cases h : i < l.length
    · have := hb l[i] (List.getElem_mem h)
      simpa [getElem!_def, List.getElem?_eq_getElem h] using this
    · simp [getElem!_def, List.getElem?_eq_none (Nat.le_of_not_lt h)]
  have hs := insertionSort_holds (lt := ltOf dn) dn_swo l.toArray 0 l.length (Nat.zero_le _) (by simp)
  have e : Vi.fall l = (insertionSort (ltOf dn) l.toArray 0 l.length).toList := by
    unfold Vi.fall insertionSort
    rw [outer_same 0 l.length _ _ _ rfl hB]
  rw [e]
  generalize insertionSort (ltOf dn) l.toArray 0 l.length = d at hs
  obtain ⟨⟨hsz, _, hp⟩, hso⟩ := hs
  have hsz' : d.size = l.length := by simpa using hsz
  refine desc_unique _ _ ?_ ?_ (D_desc l)
  · refine List.Perm.trans ?_ (D_perm l).symm
    have h1 : (d.extract 0 l.length).toList = d.toList := by
      rw [← hsz']; simp
    rw [h1] at hp
    have h2 : (l.toArray.extract 0 l.length).toList = l := by simp
    rwa [h2] at hp
  · refine List.pairwise_iff_getElem.mpr fun i j hi hj hij => ?_
    have := hso i j (Nat.zero_le _) hij (by rw [Array.length_toList, hsz'] at hj; exact hj)
    rw [Array.length_toList] at hi hj
    simp only [ltOf, dn, decide_eq_false_iff_not, Int.not_lt, getElem!_def, Array.getElem?_eq_getElem hi, Array.getElem?_eq_getElem hj, Array.getElem_toList] at this ⊢
    omega
/-- the sum of the first numbers -/
def psm (l : List Int) (k : Nat) : Int := (l.take k).sum
/-- what numbers have above a bound -/
def ex (t : Int) : List Int → Int
  | [] => 0
  | x :: l => max (x - t) 0 + ex t l
def Nn (l : List Int) : Prop := ∀ x ∈ l, 0 ≤ x
/-- at least as uneven -/
def Maj (x y : List Int) : Prop := (∀ k, psm (insAll y) k ≤ psm (insAll x) k) ∧ x.sum = y.sum

theorem psm_zero (l : List Int) : psm l 0 = 0 := by simp [psm]
theorem psm_nil (k : Nat) : psm [] k = 0 := by simp [psm]
theorem psm_cons (x : Int) (l : List Int) (k : Nat) : psm (x :: l) (k + 1) = x + psm l k := by simp [psm]
theorem psm_all {l : List Int} {k : Nat} (h : l.length ≤ k) : psm l k = l.sum := by rw [psm, List.take_of_length_le h]
theorem psm_succ : ∀ (l : List Int) (k : Nat), psm l (k + 1) = psm l k + l.getD k 0
  | [], k => by simp [psm]
  | x :: l, 0 => by simp [psm]
  | x :: l, k + 1 => by rw [psm_cons, psm_cons, psm_succ l k]; simp; omega
theorem ex_nonneg (t : Int) : ∀ l, 0 ≤ ex t l
  | [] => Int.le_refl _
  | x :: l => by have := ex_nonneg t l; simp only [ex]; omega
theorem ex_perm {t : Int} {a b : List Int} (h : a.Perm b) : ex t a = ex t b := by
  induction h with
  | nil => rfl
  | cons x _ ih => simp only [ex, ih]
  | swap x y l => simp only [ex]; omega
  | trans _ _ h1 h2 => exact h1.trans h2
theorem sum_perm {a b : List Int} (h : a.Perm b) : a.sum = b.sum := by
  induction h with
  | nil => rfl
  | cons x _ ih => simp only [List.sum_cons, ih]
  | swap x y l => simp only [List.sum_cons]; omega
  | trans _ _ h1 h2 => exact h1.trans h2
theorem psm_le (t : Int) (ht : 0 ≤ t) : ∀ (l : List Int) (k : Nat), psm l k ≤ k * t + ex t l
  | [], k => by
    have := Int.mul_nonneg (Int.natCast_nonneg k) ht
    rw [psm_nil]; simp only [ex]; omega
  | x :: l, 0 => by
    have := ex_nonneg t (x :: l)
    rw [psm_zero]; simp; omega
  | x :: l, k + 1 => by
    have := psm_le t ht l k
    rw [psm_cons]
    have e : ((k + 1 : Nat) : Int) * t = k * t + t := by rw [Int.natCast_add, Int.add_mul]; simp
    rw [e]; simp only [ex]; omega
theorem psm_eq (t : Int) : ∀ (l : List Int) (k : Nat), k ≤ l.length → (∀ x ∈ l.take k, t ≤ x) → (∀ x ∈ l.drop k, x ≤ t) → psm l k = k * t + ex t l
  | [], k, h, _, _ => by
    have : k = 0 := by simpa using h
    subst this; simp [psm, ex]
  | x :: l, 0, _, _, h => by
    have h1 := h x (by simp)
    have h2 := psm_eq t l 0 (Nat.zero_le _) (by simp) (fun y hy => h y (by simp at hy; simp [hy]))
    rw [psm_zero] at h2 ⊢
    simp only [ex]; simp at h2 ⊢; omega
  | x :: l, k + 1, h0, h1, h2 => by
    have h3 := h1 x (by simp)
    have h4 := psm_eq t l k (by simpa using h0) (fun y hy => h1 y (by simp [hy])) (fun y hy => h2 y (by simpa using hy))
    rw [psm_cons, h4]
    have e : ((k + 1 : Nat) : Int) * t = k * t + t := by rw [Int.natCast_add, Int.add_mul]; simp
    rw [e]; simp only [ex]; omega
/-- a falling list has a place for each bound -/
theorem cut_at (t : Int) : ∀ (l : List Int), Desc l → ∃ k, k ≤ l.length ∧ (∀ x ∈ l.take k, t ≤ x) ∧ (∀ x ∈ l.drop k, x ≤ t)
  | [], _ => ⟨0, by simp⟩
  | x :: l, h => by
    have h' := List.pairwise_cons.mp h
    by_cases c : x ≤ t
    · refine ⟨0, by simp, by simp, fun y hy => ?_⟩
      rcases List.mem_cons.mp (by simpa using hy) with e | e
      · omega
      · have := h'.1 y e; omega
    · obtain ⟨k, h1, h2, h3⟩ := cut_at t l h'.2
      refine ⟨k + 1, by simpa using h1, fun y hy => ?_, fun y hy => h3 y (by simpa using hy)⟩
      rcases List.mem_cons.mp (by simpa using hy) with e | e
      · omega
      · exact h2 y e
theorem take_ge : ∀ (l : List Int), Desc l → ∀ (k : Nat) (h : k < l.length), (∀ x ∈ l.take (k + 1), l[k] ≤ x) ∧ (∀ x ∈ l.drop (k + 1), x ≤ l[k])
  | [], _, k, h => absurd h (by simp)
  | y :: l, hd, 0, _ => by
    have h' := List.pairwise_cons.mp hd
    simp
    exact h'.1
  | y :: l, hd, k + 1, h => by
    have h' := List.pairwise_cons.mp hd
    obtain ⟨h1, h2⟩ := take_ge l h'.2 k (by simpa using h)
    have h3 := h'.1 (l[k]'(by simpa using h)) (List.getElem_mem _)
    refine ⟨fun x hx => ?_, fun x hx => ?_⟩
    · rcases List.mem_cons.mp (by simpa using hx) with e | e
      · subst e; simpa using h3
      · simpa using h1 x e
    · simpa using h2 x (by simpa using hx)
theorem ex_zero : ∀ {l : List Int}, Nn l → ex 0 l = l.sum
  | [], _ => rfl
  | x :: l, h => by
    have h1 := h x (by simp)
    have h2 := ex_zero (l := l) (fun y hy => h y (by simp [hy]))
    simp only [ex, List.sum_cons]; omega
theorem dom_iff {a b : List Int} (ha : Desc a) (hb : Desc b) (na : Nn a) (nb : Nn b) : (∀ k, psm b k ≤ psm a k) ↔ ∀ t, 0 ≤ t → ex t b ≤ ex t a := by
  constructor
  · intro h t ht
    obtain ⟨k, h1, h2, h3⟩ := cut_at t b hb
    have e := psm_eq t b k h1 h2 h3
    have := psm_le t ht a k
    have := h k
    omega
  · intro h k
    rcases Nat.lt_or_ge a.length k with c | c
    · rw [psm_all (Nat.le_of_lt c), ← ex_zero na]
      have := psm_le 0 (Int.le_refl 0) b k
      have := h 0 (Int.le_refl 0)
      simp at *
      omega
    · rcases k with _ | k
      · simp [psm]
      · obtain ⟨h1, h2⟩ := take_ge a ha k c
        have e := psm_eq a[k] a (k + 1) c h1 h2
        have h0 : 0 ≤ a[k] := na _ (List.getElem_mem _)
        have := psm_le a[k] h0 b (k + 1)
        have := h a[k] h0
        omega
theorem Nn_perm {a b : List Int} (h : a.Perm b) (n : Nn a) : Nn b := fun x hx => n x (h.symm.subset hx)
theorem Maj_iff {x y : List Int} (hx : Nn x) (hy : Nn y) : Maj x y ↔ (∀ t, 0 ≤ t → ex t y ≤ ex t x) ∧ x.sum = y.sum := by
  unfold Maj
  rw [dom_iff (D_desc x) (D_desc y) (Nn_perm (D_perm x).symm hx) (Nn_perm (D_perm y).symm hy)]
  simp only [ex_perm (D_perm x), ex_perm (D_perm y)]
theorem Maj_desc {x y : List Int} (hx : Desc x) (hy : Desc y) : Maj x y ↔ (∀ k, psm y k ≤ psm x k) ∧ x.sum = y.sum := by
  unfold Maj; rw [D_of_desc hx, D_of_desc hy]

theorem getD_get {l : List Int} {i : Nat} (h : i < l.length) : l.getD i 0 = l[i] := by
  rw [List.getD_eq_getElem?_getD, List.getElem?_eq_getElem h, Option.getD_some]
theorem desc_getD {y : List Int} (h : Desc y) {i j : Nat} (hij : i < j) (hj : j < y.length) : y.getD j 0 ≤ y.getD i 0 := by
  rw [getD_get hj, getD_get (by omega)]
  exact List.pairwise_iff_getElem.mp h i j _ _ hij
/-- parts of a number -/
structure Pt (a : List Int) : Prop where
  desc : Desc a
  pos : ∀ x ∈ a, 1 ≤ x
theorem Pt.nn {a : List Int} (h : Pt a) : Nn a := fun x hx => by have := h.pos x hx; omega
theorem pt_len : ∀ {a : List Int}, (∀ x ∈ a, 1 ≤ x) → (a.length : Int) ≤ a.sum
  | [], _ => by simp
  | x :: a, h => by
    have h1 := h x (by simp)
    have h2 := pt_len (a := a) (fun y hy => h y (by simp [hy]))
    simp only [List.length_cons, List.sum_cons]; omega
theorem nn_mem_le : ∀ {a : List Int}, Nn a → ∀ x ∈ a, x ≤ a.sum
  | [], _, x, hx => by simp at hx
  | y :: a, h, x, hx => by
    have h1 := h y (by simp)
    have h0 : 0 ≤ a.sum := by have := ex_zero (l := a) (fun z hz => h z (by simp [hz])); have := ex_nonneg 0 a; omega
    simp only [List.sum_cons]
    rcases List.mem_cons.mp hx with e | e
    · omega
    · have := nn_mem_le (a := a) (fun z hz => h z (by simp [hz])) x e; omega

/-- how many numbers are above one -/
def cnt : List Int → Int → Int
  | [], _ => 0
  | x :: l, i => (if i < x then 1 else 0) + cnt l i
theorem cnt_nonneg (i : Int) : ∀ l, 0 ≤ cnt l i
  | [] => Int.le_refl _
  | x :: l => by have := cnt_nonneg i l; simp only [cnt]; split <;> omega
theorem cnt_mono {i j : Int} (h : i ≤ j) : ∀ l, cnt l j ≤ cnt l i
  | [] => Int.le_refl _
  | x :: l => by
    have := cnt_mono h l
    simp only [cnt]
    split <;> split <;> omega
theorem cnt_ex (i : Int) : ∀ l, cnt l i = ex i l - ex (i + 1) l
  | [] => by simp [cnt, ex]
  | x :: l => by
    have := cnt_ex i l
    simp only [cnt, ex]
    split <;> omega
theorem cnt_zero {i : Int} : ∀ {l : List Int}, (∀ x ∈ l, x ≤ i) → cnt l i = 0
  | [], _ => rfl
  | x :: l, h => by
    have h1 := h x (by simp)
    have h2 := cnt_zero (l := l) (fun y hy => h y (by simp [hy]))
    simp only [cnt, h2]
    rw [if_neg (by omega)]; rfl
/-- parts turned over -/
def turnOf (a : List Int) : List Int := (List.range (a.headD 0).toNat).map fun (i : Nat) => cnt a (i : Int)
theorem head_max {a : List Int} (h : Desc a) : ∀ x ∈ a, x ≤ a.headD 0 := by
  cases a with
  | nil => simp
  | cons y a =>
    intro x hx
    simp only [List.headD_cons]
    rcases List.mem_cons.mp hx with e | e
    · omega
    · exact (List.pairwise_cons.mp h).1 x e
theorem turn_getD {a : List Int} (h : Desc a) (i : Nat) : (turnOf a).getD i 0 = cnt a i := by
  rw [List.getD_eq_getElem?_getD]
  rcases Nat.lt_or_ge i (a.headD 0).toNat with c | c
  · rw [turnOf, List.getElem?_map, List.getElem?_range c]; rfl
  · have e : (turnOf a)[i]? = none := List.getElem?_eq_none (by simp only [turnOf, List.length_map, List.length_range]; exact c)
    rw [e, Option.getD_none, cnt_zero fun x hx => by have := head_max h x hx; omega]
theorem turn_psm {a : List Int} (h : Desc a) (n : Nn a) : ∀ t : Nat, psm (turnOf a) t = a.sum - ex t a
  | 0 => by rw [psm_zero]; have := ex_zero n; simp; omega
  | t + 1 => by
    have e := cnt_ex t a
    rw [psm_succ, turn_psm h n t, turn_getD h]; simp; omega
theorem turn_desc (a : List Int) : Desc (turnOf a) := by
  refine List.pairwise_iff_getElem.mpr fun i j hi hj hij => ?_
  simp only [turnOf, List.getElem_map, List.getElem_range]
  exact cnt_mono (by omega) a
theorem cnt_pos {i : Int} : ∀ {a : List Int}, i < a.headD 0 → a ≠ [] → 1 ≤ cnt a i
  | [], _, h => absurd rfl h
  | x :: a, h, _ => by
    have := cnt_nonneg i a
    simp only [List.headD_cons] at h
    simp only [cnt, if_pos h]; omega
theorem turn_pos (a : List Int) : ∀ x ∈ turnOf a, 1 ≤ x := by
  intro x hx
  simp only [turnOf, List.mem_map, List.mem_range] at hx
  obtain ⟨i, hi, rfl⟩ := hx
  refine cnt_pos (by omega) ?_
  rintro rfl
  simp at hi
theorem turn_pt (a : List Int) : Pt (turnOf a) := ⟨turn_desc a, turn_pos a⟩
theorem ex_big {t : Int} : ∀ {a : List Int}, (∀ x ∈ a, x ≤ t) → ex t a = 0
  | [], _ => rfl
  | x :: a, h => by
    have h1 := h x (by simp)
    have h2 := ex_big (a := a) (fun y hy => h y (by simp [hy]))
    simp only [ex]; omega
theorem nn_sum {a : List Int} (n : Nn a) : 0 ≤ a.sum := by have := ex_zero n; have := ex_nonneg 0 a; omega
theorem turn_sum {a : List Int} (h : Desc a) (n : Nn a) : (turnOf a).sum = a.sum := by
  have e := turn_psm h n (a.sum.toNat + (turnOf a).length)
  rw [psm_all (by omega), ex_big] at e
  · omega
  · intro x hx
    have := nn_mem_le n x hx
    omega
theorem turn_len {a : List Int} (h : Pt a) (h12 : a.sum ≤ 12) : (turnOf a).length ≤ 12 := by
  have := pt_len (turn_pt a).pos
  rw [turn_sum h.desc h.nn] at this
  omega
/-- a statement as a truth value -/
noncomputable def dc (p : Prop) : Bool := @decide p (Classical.propDecidable p)
theorem dc_true {p : Prop} (h : p) : dc p = true := @decide_eq_true p (Classical.propDecidable p) h
theorem dc_false {p : Prop} (h : ¬ p) : dc p = false := @decide_eq_false p (Classical.propDecidable p) h
theorem dc_congr {p q : Prop} (h : p ↔ q) : dc p = dc q := by rw [propext h]
theorem w64 {i : Int} (h1 : -9223372036854775808 ≤ i) (h2 : i < 9223372036854775808) : wrap64 i = i := by unfold wrap64; omega
theorem rd_at (l : List Int) (i : Nat) : rd l (i : Int) = l.getD i 0 := by simp [Go.Proofs.YtkieehjpnjplmaaDoorW.PrintWords.rd]
theorem rd_drop {l : List Int} {i : Nat} (h : i < l.length) : l.drop i = rd l (i : Int) :: l.drop (i + 1) := by
  rw [rd_at, getD_get h]; exact List.drop_eq_getElem_cons h
theorem getD_mem {l : List Int} {i : Nat} (h : i < l.length) : l.getD i 0 ∈ l := by rw [getD_get h]; exact List.getElem_mem h
theorem mn_min (a b : Int) : mn a b = min a b := by unfold mn; split <;> omega
theorem mx_max (a b : Int) : mx a b = max a b := by unfold mx; split <;> omega

theorem min_l (x : List Int) (hx : x.length ≤ 9223372036854775807) : ∀ n i k acc, i + n = x.length → n < k → slices_Min_int_int.l0 k x acc (i : Int) = some ((x.drop i).foldl (fun a b => min a b) acc) := by
  intro n
  induction n with
  | zero =>
    intro i k acc hi hk
    obtain ⟨k, rfl⟩ : ∃ m, k = m + 1 := ⟨k - 1, by omega⟩
    rw [slices_Min_int_int.l0, if_neg (by omega), List.drop_of_length_le (by omega)]; rfl
  | succ n ih =>
    intro i k acc hi hk
    obtain ⟨k, rfl⟩ : ∃ m, k = m + 1 := ⟨k - 1, by omega⟩
    rw [slices_Min_int_int.l0, if_pos (by omega), if_pos (by omega), w64 (by omega) (by omega), show (i : Int) + 1 = ((i + 1 : Nat) : Int) by omega, ih (i + 1) k _ (by omega) (by omega), rd_drop (i := i) (by omega), List.foldl_cons, mn_min]
theorem max_l (x : List Int) (hx : x.length ≤ 9223372036854775807) : ∀ n i k acc, i + n = x.length → n < k → slices_Max_int_int.l0 k x acc (i : Int) = some ((x.drop i).foldl (fun a b => max a b) acc) := by
  intro n
  induction n with
  | zero =>
    intro i k acc hi hk
    obtain ⟨k, rfl⟩ : ∃ m, k = m + 1 := ⟨k - 1, by omega⟩
    rw [slices_Max_int_int.l0, if_neg (by omega), List.drop_of_length_le (by omega)]; rfl
  | succ n ih =>
    intro i k acc hi hk
    obtain ⟨k, rfl⟩ : ∃ m, k = m + 1 := ⟨k - 1, by omega⟩
    rw [slices_Max_int_int.l0, if_pos (by omega), if_pos (by omega), w64 (by omega) (by omega), show (i : Int) + 1 = ((i + 1 : Nat) : Int) by omega, ih (i + 1) k _ (by omega) (by omega), rd_drop (i := i) (by omega), List.foldl_cons, mx_max]
theorem le_foldl_min (v : Int) : ∀ (l : List Int) (a : Int), v ≤ l.foldl (fun a b => min a b) a ↔ v ≤ a ∧ ∀ x ∈ l, v ≤ x
  | [], a => by simp
  | y :: l, a => by
    rw [List.foldl_cons, le_foldl_min v l]
    simp only [List.mem_cons, forall_eq_or_imp]
    constructor
    · intro ⟨h, h'⟩; exact ⟨by omega, by omega, h'⟩
    · intro ⟨h, h', h''⟩; exact ⟨by omega, h''⟩
theorem foldl_max_le (v : Int) : ∀ (l : List Int) (a : Int), l.foldl (fun a b => max a b) a ≤ v ↔ a ≤ v ∧ ∀ x ∈ l, x ≤ v
  | [], a => by simp
  | y :: l, a => by
    rw [List.foldl_cons, foldl_max_le v l]
    simp only [List.mem_cons, forall_eq_or_imp]
    constructor
    · intro ⟨h, h'⟩; exact ⟨by omega, by omega, h'⟩
    · intro ⟨h, h', h''⟩; exact ⟨by omega, h''⟩
theorem min_f (l : List Int) (h1 : 1 ≤ l.length) (hx : l.length ≤ 9223372036854775807) (k : Nat) (hk : l.length < k) : ∃ m, slices_Min_int_int.f k l = some m ∧ ∀ v, v ≤ m ↔ ∀ x ∈ l, v ≤ x := by
  refine ⟨(l.drop 1).foldl (fun a b => min a b) (rd l (0 : Nat)), ?_, fun v => ?_⟩
  · rw [slices_Min_int_int.f, if_neg (by omega), if_pos (by omega)]
    exact min_l l hx (l.length - 1) 1 k _ (by omega) (by omega)
  · rw [le_foldl_min]
    have e := rd_drop (l := l) (i := 0) (by omega)
    rw [List.drop_zero] at e
    conv => rhs; rw [e]
    simp [List.forall_mem_cons]
theorem max_f (l : List Int) (h1 : 1 ≤ l.length) (hx : l.length ≤ 9223372036854775807) (k : Nat) (hk : l.length < k) : ∃ m, slices_Max_int_int.f k l = some m ∧ ∀ v, m ≤ v ↔ ∀ x ∈ l, x ≤ v := by
  refine ⟨(l.drop 1).foldl (fun a b => max a b) (rd l (0 : Nat)), ?_, fun v => ?_⟩
  · rw [slices_Max_int_int.f, if_neg (by omega), if_pos (by omega)]
    exact max_l l hx (l.length - 1) 1 k _ (by omega) (by omega)
  · rw [foldl_max_le]
    have e := rd_drop (l := l) (i := 0) (by omega)
    rw [List.drop_zero] at e
    conv => rhs; rw [e]
    simp [List.forall_mem_cons]

/-- shares -/
structure Sh (l : List Int) : Prop where
  h1 : 1 ≤ l.length
  h6 : l.length ≤ 6
  hb : ∀ x ∈ l, 0 ≤ x ∧ x ≤ 20
/-- two shares of the same number -/
def Two (x y : List Int) : Prop := Sh x ∧ Sh y ∧ x.length = y.length
theorem Sh.nn {l : List Int} (h : Sh l) : Nn l := fun x hx => (h.hb x hx).1
theorem are_step (L x0 : List (List Int)) (i n : Nat) (k : Nat) (hi : i < L.length) (hL : L.length < 100) (h0 : 0 < x0.length) (hk : (rd_L1 L i).length < k) (hx : (rd_L1 L i).length ≤ 9223372036854775807) :
    shares_are.l0 (k + 1) x0 L (n : Int) (i : Int) = if i < n then (if dc (Sh (rd_L1 L i) ∧ (rd_L1 L i).length = (rd_L1 x0 0).length) = true then shares_are.l0 k x0 L (n : Int) ((i + 1 : Nat) : Int) else some false) else some true := by
  rw [shares_are.l0]
  by_cases c : i < n
  · rw [if_pos (by omega), if_pos (by omega), if_pos (by omega), if_pos c]
    by_cases c1 : (rd_L1 L i).length < 1
    · rw [if_pos (by omega), dc_false fun h => absurd h.1.h1 (by omega), if_neg (by decide)]
    · rw [if_neg (by omega)]
      by_cases c2 : (rd_L1 L i).length ≤ 6
      · rw [if_neg (by omega), if_pos (by omega)]
        by_cases c3 : (rd_L1 L i).length = (rd_L1 x0 0).length
        · rw [if_pos (by omega)]
          obtain ⟨m, e1, f1⟩ := min_f (rd_L1 L i) (by omega) hx k hk
          obtain ⟨M, e2, f2⟩ := max_f (rd_L1 L i) (by omega) hx k hk
          rw [e1, e2, Option.bind_some]
          have g1 := f1 0
          have g2 := f2 20
          by_cases d1 : m < 0
          · rw [if_pos d1, dc_false, if_neg (by decide)]
            intro h
            have := g1.mpr fun x hx => (h.1.hb x hx).1
            omega
          · rw [if_neg d1, Option.bind_some]
            by_cases d2 : M > 20
            · rw [if_pos d2, dc_false, if_neg (by decide)]
              intro h
              have := g2.mpr fun x hx => (h.1.hb x hx).2
              omega
            · rw [if_neg d2, dc_true, if_pos rfl, w64 (by omega) (by omega), show (i : Int) + 1 = ((i + 1 : Nat) : Int) by omega]
              exact ⟨⟨by omega, c2, fun x hx => ⟨g1.mp (by omega) x hx, g2.mp (by omega) x hx⟩⟩, c3⟩
        · rw [if_neg (by omega), dc_false fun h => c3 h.2, if_neg (by decide)]
      · rw [if_pos (by omega), dc_false fun h => c2 h.1.h6, if_neg (by decide)]
  · rw [if_neg (by omega), if_neg c]
theorem are_two (a b : List Int) (ha : a.length ≤ 15) (hb : b.length ≤ 15) (k : Nat) (hk : 20 < k) : shares_are.f k [a, b] = some (dc (Two a b)) := by
  obtain ⟨k, rfl⟩ : ∃ m, k = ((m + 1) + 1) + 1 := ⟨k - 3, by omega⟩
  unfold shares_are.f
  have s1 := are_step [a, b] [a, b] 0 2 (k + 1 + 1) (by simp) (by simp) (by simp) (show a.length < k + 1 + 1 by omega) (show a.length ≤ _ by omega)
  have s2 := are_step [a, b] [a, b] 1 2 (k + 1) (by simp) (by simp) (by simp) (show b.length < k + 1 by omega) (show b.length ≤ _ by omega)
  have e0 : rd_L1 [a, b] ((0 : Nat) : Int) = a := rfl
  have e1 : rd_L1 [a, b] ((1 : Nat) : Int) = b := rfl
  have e2 : rd_L1 [a, b] 0 = a := rfl
  rw [e0, e2] at s1
  rw [e1, e2] at s2
  have e3 : (([a, b] : List (List Int)).length : Int) = ((2 : Nat) : Int) := rfl
  rw [e3, show ((0 : Int)) = ((0 : Nat) : Int) by rfl, s1, if_pos (by omega)]
  by_cases h : Sh a
  · rw [dc_true ⟨h, rfl⟩, if_pos rfl, s2, if_pos (by omega)]
    by_cases h2 : Sh b ∧ b.length = a.length
    · rw [dc_true h2, if_pos rfl, dc_true ⟨h, h2.1, h2.2.symm⟩, shares_are.l0, if_neg (by omega)]
    · rw [dc_false h2, if_neg (by decide), dc_false]
      intro c
      exact h2 ⟨c.2.1, c.2.2.symm⟩
  · rw [dc_false fun c => h c.1, if_neg (by decide), dc_false]
    exact fun c => h c.1

/-- small numbers: no sum leaves the range -/
structure Sm (l : List Int) : Prop where
  hl : l.length ≤ 40
  hb : ∀ x ∈ l, 0 ≤ x ∧ x ≤ 1000
theorem Sm.nn {l : List Int} (h : Sm l) : Nn l := fun x hx => (h.hb x hx).1
theorem sm_of_sh {l : List Int} (h : Sh l) : Sm l := ⟨by have := h.h6; omega, fun x hx => by have := h.hb x hx; omega⟩
theorem sm_sum : ∀ {l : List Int}, (∀ x ∈ l, 0 ≤ x ∧ x ≤ 1000) → 0 ≤ l.sum ∧ l.sum ≤ 1000 * l.length
  | [], _ => by simp
  | x :: l, h => by
    have h1 := h x (by simp)
    have h2 := sm_sum (l := l) (fun y hy => h y (by simp [hy]))
    simp only [List.sum_cons, List.length_cons]; omega
theorem sm_psm {l : List Int} (h : Sm l) (k : Nat) : 0 ≤ psm l k ∧ psm l k ≤ 40000 := by
  have h1 := sm_sum (l := l.take k) (fun x hx => h.hb x (List.mem_of_mem_take hx))
  have h2 : (l.take k).length ≤ 40 := by have := h.hl; rw [List.length_take]; omega
  unfold psm; omega
theorem sm_perm {a b : List Int} (h : a.Perm b) (s : Sm a) : Sm b := ⟨by rw [← h.length_eq]; exact s.hl, fun x hx => s.hb x (h.symm.subset hx)⟩
theorem sm_D {a : List Int} (s : Sm a) : Sm (insAll a) := sm_perm (D_perm a).symm s

def sumsTo (l : List Int) : Nat → List Int
  | 0 => []
  | n + 1 => sumsTo l n ++ [psm l (n + 1)]
theorem sumsTo_len (l : List Int) : ∀ n, (sumsTo l n).length = n
  | 0 => rfl
  | n + 1 => by simp [sumsTo, sumsTo_len l n]
theorem sumsTo_getD (l : List Int) : ∀ n i, i < n → (sumsTo l n).getD i 0 = psm l (i + 1)
  | 0, i, h => absurd h (by omega)
  | n + 1, i, h => by
    have hl := sumsTo_len l n
    rw [sumsTo, List.getD_eq_getElem?_getD]
    rcases Nat.lt_or_ge i n with c | c
    · rw [List.getElem?_append_left (by omega), ← List.getD_eq_getElem?_getD, sumsTo_getD l n i c]
    · have : i = n := by omega
      subst this
      rw [List.getElem?_append_right (by omega), hl]; simp
theorem sums_l {x : List Int} (hx : Sm x) : ∀ n i k, i + n = x.length → n < k → shares_sums.l0 k (sumsTo x i) (psm x i) x (x.length : Int) (i : Int) = some (sumsTo x x.length) := by
  intro n
  have := hx.hl
  induction n with
  | zero =>
    intro i k hi hk
    obtain ⟨k, rfl⟩ : ∃ m, k = m + 1 := ⟨k - 1, by omega⟩
    rw [shares_sums.l0, if_neg (by omega), show i = x.length by omega]
  | succ n ih =>
    intro i k hi hk
    obtain ⟨k, rfl⟩ : ∃ m, k = m + 1 := ⟨k - 1, by omega⟩
    have e : wrap64 (psm x i + rd x (i : Int)) = psm x (i + 1) := by
      have := sm_psm hx (i + 1)
      rw [psm_succ, ← rd_at] at *
      rw [w64 (by omega) (by omega)]
    rw [shares_sums.l0, if_pos (by omega), if_pos (by omega), if_pos (by omega), if_pos (by rw [sumsTo_len]; omega), e, w64 (i := (i : Int) + 1) (by omega) (by omega), show (i : Int) + 1 = ((i + 1 : Nat) : Int) by omega]
    exact ih (i + 1) k (by omega) (by omega)
theorem sums_f {x : List Int} (hx : Sm x) (k : Nat) (hk : 50 < k) : shares_sums.f k x = some (sumsTo x x.length) := by
  have := hx.hl
  unfold shares_sums.f
  have := sums_l hx x.length 0 k (by omega) (by omega)
  rwa [psm_zero] at this
theorem un_l {a b : List Int} (hl : a.length = b.length) (ha : Sm a) (h1 : 1 ≤ a.length) : ∀ n i k, i + n = a.length → n < k →
    shares_uneven.l0 k (sumsTo a a.length) (sumsTo b b.length) (a.length : Int) (i : Int) = some (dc ((∀ j, i ≤ j → j < a.length → psm b (j + 1) ≤ psm a (j + 1)) ∧ a.sum = b.sum)) := by
  intro n
  have := ha.hl
  have la := sumsTo_len a a.length
  have lb := sumsTo_len b b.length
  induction n with
  | zero =>
    intro i k hi hk
    obtain ⟨k, rfl⟩ : ∃ m, k = m + 1 := ⟨k - 1, by omega⟩
    rw [shares_uneven.l0, if_neg (by omega), la, lb, w64 (i := (a.length : Int) - 1) (by omega) (by omega), w64 (i := (b.length : Int) - 1) (by omega) (by omega), if_pos (by omega), if_pos (by omega), if_pos (by omega), if_pos (by omega)]
    rw [show (a.length : Int) - 1 = ((a.length - 1 : Nat) : Int) by omega, show (b.length : Int) - 1 = ((b.length - 1 : Nat) : Int) by omega, rd_at, rd_at, sumsTo_getD _ _ _ (by omega), sumsTo_getD _ _ _ (by omega), psm_all (by omega), psm_all (by omega)]
    congr 1
    by_cases c : a.sum = b.sum
    · rw [dc_true ⟨fun j h1 h2 => absurd h1 (by omega), c⟩, c]; simp
    · rw [dc_false fun h => c h.2]; simp [c]
  | succ n ih =>
    intro i k hi hk
    obtain ⟨k, rfl⟩ : ∃ m, k = m + 1 := ⟨k - 1, by omega⟩
    rw [shares_uneven.l0, if_pos (by omega), if_pos (by omega), if_pos (by omega), if_pos (by omega), rd_at, rd_at, sumsTo_getD _ _ _ (by omega), sumsTo_getD _ _ _ (by omega), w64 (by omega) (by omega), show (i : Int) + 1 = ((i + 1 : Nat) : Int) by omega, ih (i + 1) k (by omega) (by omega)]
    split
    · rw [dc_false]
      intro h
      have := h.1 i (Nat.le_refl _) (by omega)
      omega
    · congr 1; apply dc_congr
      constructor
      · intro ⟨h, s⟩
        refine ⟨fun j h1 h2 => ?_, s⟩
        by_cases e : j = i
        · subst e; omega
        · exact h j (by omega) h2
      · intro ⟨h, s⟩
        exact ⟨fun j h1 h2 => h j (by omega) h2, s⟩
theorem uneven_f {x y : List Int} (hx : Sm x) (hy : Sm y) (h1 : 1 ≤ x.length) (h12 : x.length ≤ 12) (hl : x.length = y.length) (k : Nat) (hk : 50 < k) : shares_uneven.f k x y = some (dc (Maj x y)) := by
  have ex : xFalling.f x = some (insAll x) := by
    rw [← fall_eq x hx.hb]
    exact if_pos ⟨by intro e; subst e; simp at h1, h12⟩
  have ey : xFalling.f y = some (insAll y) := by
    rw [← fall_eq y hy.hb]
    exact if_pos ⟨by intro e; subst e; rw [List.length_nil] at hl; omega, by omega⟩
  have lx := D_length x
  have ly := D_length y
  unfold shares_uneven.f
  rw [ex, ey, Option.bind_some, sums_f (sm_D hx) k hk, Option.bind_some, Option.bind_some, sums_f (sm_D hy) k hk, Option.bind_some, sumsTo_len, show ((0 : Int)) = ((0 : Nat) : Int) by rfl, un_l (by omega) (sm_D hx) (by omega) (insAll x).length 0 k (by omega) (by omega)]
  congr 1; apply dc_congr
  unfold Maj
  rw [sum_perm (D_perm x), sum_perm (D_perm y)]
  constructor
  · intro ⟨h, s⟩
    refine ⟨fun j => ?_, s⟩
    rcases j with _ | j
    · simp [psm_zero]
    · rcases Nat.lt_or_ge j (insAll x).length with c | c
      · exact h j (Nat.zero_le _) c
      · rw [psm_all (by omega), psm_all (by omega), sum_perm (D_perm x), sum_perm (D_perm y)]; omega
  · intro ⟨h, s⟩
    exact ⟨fun j _ _ => h (j + 1), s⟩

theorem Uneven_f {x y : List Int} (hx : x.length ≤ 15) (hy : y.length ≤ 15) (k : Nat) (hk : 50 < k) : shares_Uneven.f k x y = some (if dc (Two x y) = true then (dc (Maj x y), 0) else (false, 2)) := by
  unfold shares_Uneven.f
  rw [are_two x y hx hy k (by omega), Option.bind_some]
  by_cases h : Two x y
  · rw [dc_true h, if_pos rfl, if_pos rfl, uneven_f (sm_of_sh h.1) (sm_of_sh h.2.1) h.1.h1 (by have := h.1.h6; omega) h.2.2 k hk, Option.bind_some]
  · rw [dc_false h, if_neg (by decide), if_neg (by decide)]
/-- no number is above the one before it -/
def Adj (a : List Int) (lo hi : Nat) : Prop := ∀ j, lo ≤ j → j < hi → a.getD j 0 ≤ a.getD (j - 1) 0
theorem desc_adj (a : List Int) : Desc a ↔ Adj a 1 a.length := by
  constructor
  · intro h j h1 h2
    exact desc_getD h (by omega) h2
  · intro h
    refine List.pairwise_iff_getElem.mpr fun i j hi hj hij => ?_
    have key : ∀ n j, j = i + 1 + n → j < a.length → a.getD j 0 ≤ a.getD i 0 := by
      intro n
      induction n with
      | zero =>
        intro j e hj
        have := h j (by omega) hj
        rwa [show j - 1 = i by omega] at this
      | succ n ih =>
        intro j e hj
        have h1 := h j (by omega) hj
        have h2 := ih (j - 1) (by omega) (by omega)
        omega
    have := key (j - i - 1) j (by omega) hj
    rwa [getD_get hj, getD_get hi] at this
theorem sor_l (a : List Int) (hl : a.length ≤ 1000) (hb : ∀ x ∈ a, 0 ≤ x ∧ x ≤ 1000) : ∀ i k, i < a.length → i + 1 < k → slices_IsSortedFunc_int_int_with43.l0 k a (i : Int) = some (dc (Adj a 1 (i + 1))) := by
  intro i
  induction i with
  | zero =>
    intro k hi hk
    obtain ⟨k, rfl⟩ : ∃ m, k = m + 1 := ⟨k - 1, by omega⟩
    rw [slices_IsSortedFunc_int_int_with43.l0, if_neg (by omega), dc_true (p := Adj a 1 (0 + 1)) (fun j h1 h2 => absurd h1 (by omega))]
  | succ i ih =>
    intro k hi hk
    obtain ⟨k, rfl⟩ : ∃ m, k = m + 1 := ⟨k - 1, by omega⟩
    have b1 := hb _ (getD_mem (l := a) (i := i + 1) hi)
    have b2 := hb _ (getD_mem (l := a) (i := i) (by omega))
    rw [slices_IsSortedFunc_int_int_with43.l0, if_pos (by omega), if_pos (by omega), if_pos (by omega), w64 (i := ((i + 1 : Nat) : Int) - 1) (by omega) (by omega), if_pos (by omega), if_pos (by omega), show ((i + 1 : Nat) : Int) - 1 = (i : Int) by omega, rd_at, rd_at, shares_down.f, Option.bind_some, w64 (by omega) (by omega), ih k (by omega) (by omega)]
    split
    · rw [dc_false fun h => absurd (h (i + 1) (by omega) (by omega)) (by rw [Nat.add_sub_cancel]; omega)]
    · congr 1; apply dc_congr
      constructor
      · intro h j h2 h3
        by_cases e : j = i + 1
        · subst e; rw [Nat.add_sub_cancel]; omega
        · exact h j h2 (by omega)
      · exact fun h j h2 h3 => h j h2 (by omega)
theorem Sorted_f (a : List Int) (h1 : 1 ≤ a.length) (hl : a.length ≤ 1000) (hb : ∀ x ∈ a, 0 ≤ x ∧ x ≤ 1000) (k : Nat) (hk : a.length < k) : slices_IsSortedFunc_int_int_with43.f k a = some (dc (Desc a)) := by
  unfold slices_IsSortedFunc_int_int_with43.f
  rw [w64 (by omega) (by omega), show (a.length : Int) - 1 = ((a.length - 1 : Nat) : Int) by omega, sor_l a hl hb (a.length - 1) k (by omega) (by omega), show a.length - 1 + 1 = a.length by omega]
  exact congrArg some (dc_congr (desc_adj a).symm)
/-- parts of a number up to 12 -/
structure Pa (a : List Int) : Prop where
  h1 : 1 ≤ a.length
  desc : Desc a
  pos : ∀ x ∈ a, 1 ≤ x
  s12 : a.sum ≤ 12
theorem Pa.pt {a : List Int} (h : Pa a) : Pt a := ⟨h.desc, h.pos⟩
theorem Pa.len {a : List Int} (h : Pa a) : a.length ≤ 12 := by have := pt_len h.pos; have := h.s12; omega
theorem Pa.le {a : List Int} (h : Pa a) : ∀ x ∈ a, x ≤ 12 := fun x hx => by have := nn_mem_le h.pt.nn x hx; have := h.s12; omega
theorem Pa.s1 {a : List Int} (h : Pa a) : 1 ≤ a.sum := by have := pt_len h.pos; have := h.h1; omega
theorem pa_of {a : List Int} (h : Pt a) (h1 : 1 ≤ a.sum) (h12 : a.sum ≤ 12) : Pa a := by
  refine ⟨?_, h.desc, h.pos, h12⟩
  cases a with
  | nil => simp at h1
  | cons x a => simp
theorem isP_step (L : List (List Int)) (i n : Nat) (k : Nat) (x3 : Int) (hi : i < L.length) (hL : L.length < 100) (hk : 60 < k) (hx : (rd_L1 L i).length ≤ 15) :
    shares_isParts.l0 (k + 1 + 1) x3 L (n : Int) (i : Int) = if i < n then (if dc (Pa (rd_L1 L i) ∧ (x3 < 0 ∨ (rd_L1 L i).sum = x3)) = true then shares_isParts.l0 k (rd_L1 L i).sum L (n : Int) ((i + 1 : Nat) : Int) else some false) else some true := by
  rw [shares_isParts.l0]
  by_cases c : i < n
  · rw [if_pos (by omega), if_pos (by omega), if_pos (by omega), if_pos c]
    generalize hr : rd_L1 L (i : Int) = r at hx
    have jt : ∀ (p : Prop), ¬ Pa r → shares_isParts.j1 (k + 1) x3 r L (n : Int) (i : Int) true = if dc (Pa r ∧ p) = true then shares_isParts.l0 k r.sum L (n : Int) ((i + 1 : Nat) : Int) else some false := by
      intro p h
      rw [shares_isParts.j1, if_pos rfl, dc_false fun t => h t.1, if_neg (by decide)]
    by_cases c1 : r.length < 1
    · rw [if_pos (by omega)]
      exact jt _ fun h => absurd h.h1 (by omega)
    · rw [if_neg (by omega)]
      by_cases c2 : r.length ≤ 12
      · rw [if_neg (by omega)]
        obtain ⟨m, e1, f1⟩ := min_f r (by omega) (by omega) (k + 1) (by omega)
        obtain ⟨M, e2, f2⟩ := max_f r (by omega) (by omega) (k + 1) (by omega)
        rw [e1, e2, Option.bind_some]
        have g1 := f1 1
        have g2 := f2 12
        by_cases d1 : m < 1
        · rw [if_pos d1]
          exact jt _ fun h => absurd (g1.mpr fun x hx => h.pos x hx) (by omega)
        · rw [if_neg d1, Option.bind_some]
          by_cases d2 : M > 12
          · rw [if_pos d2]
            exact jt _ fun h => absurd (g2.mpr fun x hx => h.le x hx) (by omega)
          · have hsm : Sm r := ⟨by omega, fun x hx => by have := g1.mp (by omega) x hx; have := g2.mp (by omega) x hx; omega⟩
            rw [if_neg d2, Sorted_f r (by omega) (by omega) hsm.hb (k + 1) (by omega), Option.bind_some]
            by_cases hd : Desc r
            · rw [dc_true hd, Bool.not_true, shares_isParts.j1, if_neg (by decide), sums_f hsm k (by omega), Option.bind_some, sumsTo_len, w64 (i := (r.length : Int) - 1) (by omega) (by omega), if_pos (by omega), if_pos (by omega), show (r.length : Int) - 1 = ((r.length - 1 : Nat) : Int) by omega, rd_at, sumsTo_getD _ _ _ (by omega), psm_all (by omega), w64 (i := (i : Int) + 1) (by omega) (by omega), show (i : Int) + 1 = ((i + 1 : Nat) : Int) by omega]
              by_cases hs : r.sum ≤ 12
              · have hp : Pa r := ⟨by omega, hd, fun x hx => g1.mp (by omega) x hx, hs⟩
                rw [if_neg (by omega)]
                by_cases h3 : x3 ≥ 0
                · rw [if_pos h3]
                  by_cases h4 : r.sum = x3
                  · rw [if_pos h4, dc_true ⟨hp, .inr h4⟩, if_pos rfl]
                  · rw [if_neg h4, dc_false (fun h => h.2.elim (fun g => absurd g (by omega)) h4), if_neg (by decide)]
                · rw [if_neg h3, dc_true ⟨hp, .inl (by omega)⟩, if_pos rfl]
              · rw [if_pos (by omega), dc_false fun h => hs h.1.s12, if_neg (by decide)]
            · rw [dc_false hd, Bool.not_false]
              exact jt _ fun h => hd h.desc
      · rw [if_pos (by omega)]
        exact jt _ fun h => c2 h.len
  · rw [if_neg (by omega), if_neg c]
theorem isP_one (a : List Int) (ha : a.length ≤ 15) (k : Nat) (hk : 70 < k) : shares_isParts.f k [a] = some (dc (Pa a)) := by
  obtain ⟨k, rfl⟩ : ∃ m, k = (m + 1) + 1 + 1 := ⟨k - 3, by omega⟩
  unfold shares_isParts.f
  have s1 := isP_step [a] 0 1 (k + 1) (-1) (by simp) (by simp) (by omega) (show a.length ≤ 15 from ha)
  have e0 : rd_L1 [a] ((0 : Nat) : Int) = a := rfl
  have e3 : (([a] : List (List Int)).length : Int) = ((1 : Nat) : Int) := rfl
  rw [e0] at s1
  rw [e3, show ((0 : Int)) = ((0 : Nat) : Int) by rfl, s1, if_pos (by omega)]
  by_cases h : Pa a
  · rw [dc_true ⟨h, .inl (by omega)⟩, if_pos rfl, dc_true h, shares_isParts.l0, if_neg (by omega)]
  · rw [dc_false fun c => h c.1, if_neg (by decide), dc_false h]
theorem turn_in {a : List Int} (hl : a.length ≤ 100) (x0 x3 : List Int) (v x10 x11 : Int) (h3 : x3.length < 1000) : ∀ (n j k : Nat) (acc : Int), j + n = a.length → 0 ≤ acc → acc ≤ j →
    shares_turn.l1 (k + n + 1) x0 x3 v acc x10 x11 a (a.length : Int) (j : Int) = shares_turn.l0 k x0 (x3 ++ [acc + cnt (a.drop j) v]) x10 (wrap64 (x11 + 1)) := by
  intro n
  induction n with
  | zero =>
    intro j k acc hj h0 h1
    rw [shares_turn.l1, if_neg (by omega), List.drop_of_length_le (by omega), if_pos (by omega)]
    simp [cnt]
  | succ n ih =>
    intro j k acc hj h0 h1
    rw [show k + (n + 1) + 1 = (k + n + 1) + 1 by omega, shares_turn.l1, if_pos (by omega), if_pos (by omega), if_pos (by omega), w64 (i := acc + 1) (by omega) (by omega), w64 (i := (j : Int) + 1) (by omega) (by omega), show (j : Int) + 1 = ((j + 1 : Nat) : Int) by omega, rd_drop (l := a) (i := j) (by omega)]
    simp only [cnt]
    by_cases c : rd a (j : Int) > v
    · rw [if_pos c, if_pos c, ih (j + 1) k (acc + 1) (by omega) (by omega) (by omega), Int.add_assoc]
    · rw [if_neg c, if_neg c, ih (j + 1) k acc (by omega) (by omega) (by omega), Int.zero_add]
theorem turn_l {a : List Int} (h : Pa a) (H : Nat) (hH : H ≤ 12) : ∀ n i k, i + n = H → n * 20 < k →
    shares_turn.l0 k a ((List.range i).map fun (i : Nat) => cnt a (i : Int)) (H : Int) (i : Int) = some ((List.range H).map fun (i : Nat) => cnt a (i : Int)) := by
  have := h.len
  intro n
  induction n with
  | zero =>
    intro i k hi hk
    obtain ⟨k, rfl⟩ : ∃ m, k = m + 1 := ⟨k - 1, by omega⟩
    rw [shares_turn.l0, if_neg (by omega), show i = H by omega]
  | succ n ih =>
    intro i k hi hk
    obtain ⟨k, rfl⟩ : ∃ m, k = (m + a.length + 1) + 1 := ⟨k - a.length - 2, by omega⟩
    have G := turn_in (a := a) (by omega) a ((List.range i).map fun (i : Nat) => cnt a (i : Int)) (i : Int) (H : Int) (i : Int) (by rw [List.length_map, List.length_range]; omega) a.length 0 k 0 (by omega) (by omega) (by omega)
    rw [List.drop_zero, Int.zero_add, w64 (i := (i : Int) + 1) (by omega) (by omega), show (i : Int) + 1 = ((i + 1 : Nat) : Int) by omega] at G
    have e : (List.range i).map (fun (i : Nat) => cnt a (i : Int)) ++ [cnt a (i : Int)] = (List.range (i + 1)).map (fun (i : Nat) => cnt a (i : Int)) := by
      rw [List.range_succ, List.map_append]; rfl
    rw [e] at G
    rw [shares_turn.l0, if_pos (by omega)]
    rw [show ((0 : Int)) = ((0 : Nat) : Int) by rfl] at G ⊢
    rw [G]
    exact ih (i + 1) k (by omega) (by omega)
theorem turn_f {a : List Int} (h : Pa a) (k : Nat) (hk : 300 < k) : shares_turn.f k a = some (turnOf a) := by
  have h1 := h.h1
  have e : rd a 0 = a.headD 0 := by
    cases a with
    | nil => simp at h1
    | cons x a => rfl
  have hm : a.headD 0 ≤ 12 ∧ 1 ≤ a.headD 0 := by
    cases a with
    | nil => simp at h1
    | cons x a => exact ⟨h.le x (by simp), h.pos x (by simp)⟩
  unfold shares_turn.f
  rw [if_pos (by omega), e]
  have G := turn_l h (a.headD 0).toNat (by omega) (a.headD 0).toNat 0 k (by omega) (by omega)
  rw [show (((a.headD 0).toNat : Nat) : Int) = a.headD 0 by omega] at G
  exact G
theorem Turn_f {a : List Int} (la : a.length ≤ 15) (k : Nat) (hk : 300 < k) : shares_Turn.f k a = some (if dc (Pa a) = true then (turnOf a, 0) else ([], 2)) := by
  unfold shares_Turn.f
  rw [isP_one a la k (by omega), Option.bind_some]
  by_cases h : Pa a
  · rw [dc_true h, if_pos rfl, if_pos rfl, turn_f h k hk, Option.bind_some]
  · rw [dc_false h, if_neg (by decide), if_neg (by decide)]
end Go.Proofs.YtkieehjpnjplmaaDoor.Pure
