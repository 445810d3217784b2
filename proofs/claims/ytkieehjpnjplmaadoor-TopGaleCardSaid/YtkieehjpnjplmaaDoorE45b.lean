/- The contract of falling in the printer's form: a new row with the numbers in falling order. -/
import Derived.Test.YtkieehjpnjplmaaDoorE45
import Derived.Test.YtkieehjpnjplmaaDoorX0
namespace Go.Proofs.YtkieehjpnjplmaaDoor.X
open Go Go.Proofs Go.RowKit Go.Shelf Go.Sort Go.Lib Go.Proofs.YtkieehjpnjplmaaDoorW.PrintWords

def xFalling.f (l : List Int) : Option (List Int) := if l ≠ [] ∧ l.length ≤ 12 then some (Vi.fall l) else none
theorem down_small {x y : Int} (hx : 0 ≤ x ∧ x ≤ 1000) (hy : 0 ≤ y ∧ y ≤ 1000) : Vi.down x y = y - x := by
  unfold Vi.down wrap64; omega
theorem swp_size {α : Type} [Inhabited α] (d : Array α) (i j : Nat) : (swp d i j).size = d.size := by simp [swp]
theorem insInner_size (lt : Int → Int → Bool) (a : Nat) : ∀ (j : Nat) (d : Array Int), (insInner lt a j d).size = d.size := by
  intro j
  induction j with
  | zero => intro d; rfl
  | succ j ih =>
    intro d
    unfold insInner
    split
    · rw [ih, swp_size]
    · rfl
theorem insOuter_size (lt : Int → Int → Bool) (a b : Nat) : ∀ (n i : Nat) (d : Array Int), b - i = n → (insOuter lt a b i d).size = d.size := by
  intro n
  induction n with
  | zero => intro i d h; rw [insOuter, if_neg (by omega)]
  | succ n ih =>
    intro i d h
    rw [insOuter, if_pos (by omega), ih _ _ (by omega), insInner_size]
theorem fall_length (l : List Int) : (Vi.fall l).length = l.length := by
  unfold Vi.fall insertionSort
  rw [Array.length_toList, insOuter_size _ _ _ _ _ _ rfl]
  simp
set_option maxHeartbeats 2000000 in
set_option linter.unusedVariables false in
theorem xFalling.calls (A0 : Option Addr) (c0 : Nat) (l0 : List Int) (r : List Int) (w : World) (hr0 : Kd.C (Kd.int .i64) w A0 l0.length l0) (hc0 : l0.length ≤ c0) (h : xFalling.f l0 = some r) :
    Calls Tryd.prog 45 #[.slice A0 l0.length c0] w fun e w' => ∃ v0_ : Value, e = .returned v0_ ∧ Kd.R (Kd.int .i64) 3 w' w.heap.size (fun _ => True) v0_ r ∧ Below w.heap.size w w' := by
  unfold xFalling.f at h
  have hg : (l0 ≠ [] ∧ l0.length ≤ 12) ∧ r = Vi.fall l0 := by
    split at h
    · rename_i hh
      exact ⟨hh, (Option.some.inj h).symm⟩
    · cases h
  obtain ⟨⟨h0, h12⟩, rfl⟩ := hg
  clear h
  go_enter Tryd.func45, Tryd.ntmps45
  have hI : Vi.Ints (w.alloc (.cells #[.slice A0 l0.length c0] 22)).heap.size (w.alloc (.cells #[.slice A0 l0.length c0] 22)) (.slice A0 l0.length c0) l0 := by
    have hl : 0 < l0.length := List.length_pos_iff.mpr h0
    obtain ⟨ad, e, _⟩ := Kd.at_int hr0 0 (by omega) (by omega)
    subst e
    refine .inr ⟨ad, c0, rfl, ?_, fun j hj => ?_⟩
    · obtain ⟨ad', e', hc⟩ := Kd.at_int hr0 0 (by omega) (by omega)
      cases e'
      have := World.block_lt_of_cell? w _ hc
      rw [Vi.add_block] at this
      simp; omega
    · obtain ⟨ad', e', hc⟩ := Kd.at_int (Kd.C_alloc hr0 (.cells #[.slice (some ad) l0.length c0] 22)) (j : Int) (by omega) (by omega)
      cases e'
      rw [Int.toNat_natCast] at hc
      rw [hc]
      simp [Go.Proofs.YtkieehjpnjplmaaDoorW.PrintWords.rd, List.getD_eq_getElem?_getD]
  have hS := Vi.sorted_calls w.heap.size (.slice A0 l0.length c0) l0 h0 h12 (fall_length l0) (w.alloc (.cells #[.slice A0 l0.length c0] 22)) (by simp) (cell_one_new w _ _ 0 _ rfl) hI
  have hv := (Vi.values_in Vi.all 1 trivial rfl A0 l0.length c0 w).calls Vi.all_room
  go_wp2_with (first | (go_at_call 62; refine hv.mono ?_; rintro e w' ⟨rfl, rfl⟩) | (go_at_call 61; refine hS.mono ?_; rintro e w' ⟨v, rfl, hrow, hB⟩))
  go_ret
  have hb0 : Below w.heap.size w (w.alloc (.cells #[.slice A0 l0.length c0] 22)) := below_alloc (Below.refl _ _) _
  refine ⟨v, rfl, ?_, hb0.trans (hB.mono (by simp))⟩
  have hrow' := own_weaken hrow (base' := w.heap.size) (by simp)
  refine Kd.R_of_own (by rw [fall_length]; exact hrow') (fun _ _ => trivial)
end Go.Proofs.YtkieehjpnjplmaaDoor.X
