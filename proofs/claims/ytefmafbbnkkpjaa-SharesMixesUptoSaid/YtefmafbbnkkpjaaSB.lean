/- The falling order: both sorts make the one falling list. -/
import Derived.Test.YtefmafbbnkkpjaaE95b
import Derived.Test.YtefmafbbnkkpjaaE61
namespace Go.Proofs.Ytefmafbbnkkpjaa.Pure
open Go Go.RowKit Go.Sort Go.Shelf Go.Proofs.Ytefmafbbnkkpjaa.X Go.Proofs.YtefmafbbnkkpjaaW.PrintWords Go.Proofs.YtefmafbbnkkpjaaW.PrintLast
set_option linter.unusedVariables false
set_option linter.unusedSimpArgs false

def Desc (l : List Int) : Prop := l.Pairwise (fun a b => b ≤ a)
theorem desc_unique : ∀ (a b : List Int), a.Perm b → Desc a → Desc b → a = b
  | [], b, h, _, _ => (List.Perm.nil_eq h)
  | x :: a, [], h, _, _ => by have := h.length_eq; simp at this
  | x :: a, y :: b, h, ha, hb => by
    have ha' := List.pairwise_cons.mp ha
    have hb' := List.pairwise_cons.mp hb
    have hx : x ∈ y :: b := h.subset (List.mem_cons_self)
    have hy : y ∈ x :: a := h.symm.subset (List.mem_cons_self)
    have h1 : x ≤ y := by
      rcases List.mem_cons.mp hx with e | e
      · omega
      · exact hb'.1 x e
    have h2 : y ≤ x := by
      rcases List.mem_cons.mp hy with e | e
      · omega
      · exact ha'.1 y e
    have e : x = y := by omega
    subst e
    rw [desc_unique a b (List.Perm.cons_inv h) ha'.2 hb'.2]

theorem ins_nil (x : Int) : ins [] x = [x] := rfl
theorem ins_cons (y : Int) (l : List Int) (x : Int) : ins (y :: l) x = if x ≤ y then y :: ins l x else x :: y :: l := by
  unfold ins
  by_cases h : x ≤ y
  · rw [insAt, if_pos h, if_pos h]; simp
  · rw [insAt, if_neg h, if_neg h]; simp
theorem ins_perm (x : Int) : ∀ l, (ins l x).Perm (x :: l)
  | [] => List.Perm.refl _
  | y :: l => by
    rw [ins_cons]
    split
    · exact (List.Perm.cons y (ins_perm x l)).trans (List.Perm.swap x y l)
    · exact List.Perm.refl _
theorem ins_desc (x : Int) : ∀ l, Desc l → Desc (ins l x)
  | [], _ => by simp [ins_nil, Desc]
  | y :: l, h => by
    have h' := List.pairwise_cons.mp h
    rw [ins_cons]
    split
    · rename_i c
      refine List.pairwise_cons.mpr ⟨fun z hz => ?_, ins_desc x l h'.2⟩
      rcases List.mem_cons.mp ((ins_perm x l).subset hz) with e | e
      · omega
      · exact h'.1 z e
    · rename_i c
      refine List.pairwise_cons.mpr ⟨fun z hz => ?_, h⟩
      rcases List.mem_cons.mp hz with e | e
      · omega
      · have := h'.1 z e; omega
theorem foldl_perm : ∀ (l a : List Int), (l.foldl ins a).Perm (a ++ l)
  | [], a => by simp
  | x :: l, a => by
    rw [List.foldl_cons]
    refine (foldl_perm l _).trans ?_
    refine ((ins_perm x a).append_right l).trans ?_
    simpa using (List.perm_middle (a := x) (l₁ := a) (l₂ := l)).symm
theorem foldl_desc : ∀ (l a : List Int), Desc a → Desc (l.foldl ins a)
  | [], a, h => h
  | x :: l, a, h => foldl_desc l _ (ins_desc x a h)
/-- The numbers in falling order. -/
theorem D_perm (l : List Int) : (insAll l).Perm l := by simpa [insAll] using foldl_perm l []
theorem D_desc (l : List Int) : Desc (insAll l) := foldl_desc l [] (by simp [Desc])
theorem D_length (l : List Int) : (insAll l).length = l.length := (D_perm l).length_eq
theorem D_of_desc {l : List Int} (h : Desc l) : insAll l = l := desc_unique _ _ (D_perm l) (D_desc l) h
/-! ### the program's sort -/
def Bd (d : Array Int) : Prop := ∀ i : Nat, 0 ≤ d[i]! ∧ d[i]! ≤ 1000
def dn (x y : Int) : Int := y - x
theorem lt_same {x y : Int} (hx : 0 ≤ x ∧ x ≤ 1000) (hy : 0 ≤ y ∧ y ≤ 1000) : ltOf Vi.down x y = ltOf dn x y := by
  unfold ltOf Vi.down dn
  rw [show wrap64 (y - x) = y - x by unfold wrap64; omega]
theorem set_get (d : Array Int) (i k : Nat) (v : Int) : (d.setIfInBounds i v)[k]! = if i = k ∧ k < d.size then v else d[k]! := by
  simp only [getElem!_def, Array.getElem?_setIfInBounds]
  by_cases e : i = k
  · subst e
    by_cases h : i < d.size
    · simp [h]
    · simp [h]
  · simp [e]
theorem swp_bd {d : Array Int} (h : Bd d) (i j : Nat) : Bd (swp d i j) := by
  intro k
  unfold swp
  rw [set_get, set_get]
  split
  · exact h i
  · split
    · exact h j
    · exact h k
theorem inner_same (a : Nat) : ∀ (j : Nat) (d : Array Int), Bd d → insInner (ltOf Vi.down) a j d = insInner (ltOf dn) a j d ∧ Bd (insInner (ltOf dn) a j d)
  | 0, d, h => ⟨rfl, h⟩
  | j + 1, d, h => by
    unfold insInner
    rw [lt_same (h (j + 1)) (h j)]
    split
    · exact inner_same a j _ (swp_bd h _ _)
    · exact ⟨rfl, h⟩
theorem outer_same (a b : Nat) : ∀ (n i : Nat) (d : Array Int), b - i = n → Bd d → insOuter (ltOf Vi.down) a b i d = insOuter (ltOf dn) a b i d := by
  intro n
  induction n with
  | zero =>
    intro i d h hb
    have h' : ¬ i < b := by omega
    unfold insOuter
    rw [if_neg h', if_neg h']
  | succ n ih =>
    intro i d h hb
    have := inner_same a i d hb
    rw [insOuter, if_pos (by omega)]
    conv => rhs; rw [insOuter, if_pos (by omega)]
    rw [this.1]
    exact ih _ _ (by omega) this.2
theorem dn_swo : SWO (ltOf dn) where
  irrefl := fun x => by simp [ltOf, dn]
  trans := fun x y z h1 h2 => by
    have a1 : y - x < 0 := of_decide_eq_true h1
    have a2 : z - y < 0 := of_decide_eq_true h2
    exact decide_eq_true (show z - x < 0 by omega)
  ntrans := fun x y z h1 h2 => by
    have a1 : ¬ y - x < 0 := of_decide_eq_false h1
    have a2 : ¬ z - y < 0 := of_decide_eq_false h2
    exact decide_eq_false (show ¬ z - x < 0 by omega)
theorem fall_eq (l : List Int) (hb : ∀ x ∈ l, 0 ≤ x ∧ x ≤ 1000) : Vi.fall l = insAll l := by
  have hB : Bd l.toArray := by
    intro i
    by_cases h : i < l.length
    · have := hb l[i] (List.getElem_mem h)
      simpa [getElem!_def, List.getElem?_eq_getElem h] using this
    · simp [getElem!_def, List.getElem?_eq_none (Nat.le_of_not_lt h)]
  have hs := insertionSort_holds (lt := ltOf dn) dn_swo l.toArray 0 l.length (Nat.zero_le _) (by simp)
  have e : Vi.fall l = (insertionSort (ltOf dn) l.toArray 0 l.length).toList := by
    unfold Vi.fall insertionSort
    rw [outer_same 0 l.length _ _ _ rfl hB]
  rw [e]
  generalize insertionSort (ltOf dn) l.toArray 0 l.length = d at hs
  obtain ⟨⟨hsz, _, hp⟩, hso⟩ := hs
  have hsz' : d.size = l.length := by simpa using hsz
  refine desc_unique _ _ ?_ ?_ (D_desc l)
  · refine List.Perm.trans ?_ (D_perm l).symm
    have h1 : (d.extract 0 l.length).toList = d.toList := by
      rw [← hsz']; simp
    rw [h1] at hp
    have h2 : (l.toArray.extract 0 l.length).toList = l := by simp
    rwa [h2] at hp
  · refine List.pairwise_iff_getElem.mpr fun i j hi hj hij => ?_
    have := hso i j (Nat.zero_le _) hij (by rw [Array.length_toList, hsz'] at hj; exact hj)
    rw [Array.length_toList] at hi hj
    simp only [ltOf, dn, decide_eq_false_iff_not, Int.not_lt, getElem!_def, Array.getElem?_eq_getElem hi, Array.getElem?_eq_getElem hj, Array.getElem_toList] at this ⊢
    omega
end Go.Proofs.Ytefmafbbnkkpjaa.Pure
