/- Small sets as bits; what is a permutation, in both packages; what match grows. -/
import Derived.Test.YtefmafbbnkkpjaaSO
import Derived.Test.YtefmafbbnkkpjaaSU
import Derived.Test.YtefmafbbnkkpjaaX0
import Derived.Test.YtefmafbbnkkpjaaXG1a
import Derived.Lib.Hide
import Derived.Deep.RegionLawGrows
namespace Go.Proofs.Ytefmafbbnkkpjaa.Pure
open Go Go.RowKit Go.Proofs.Ytefmafbbnkkpjaa.X Go.Proofs.YtefmafbbnkkpjaaW.PrintWords Go.Proofs.YtefmafbbnkkpjaaW.PrintLast Go.Proofs.YtefmafbbnkkpjaaW.PrintMore
set_option linter.unusedVariables false
set_option linter.unusedSimpArgs false

/-- all numbers below n, each once -/
structure PermOf (n : Nat) (q : List Int) : Prop where
  len : q.length = n
  rng : ∀ x ∈ q, 0 ≤ x ∧ x < (n : Int)
  nd : q.Nodup
theorem perm_of_sub : ∀ (a b : List Int), a.Nodup → (∀ x ∈ a, x ∈ b) → b.length = a.length → a.Perm b
  | [], b, _, _, hl => by
    have : b = [] := List.length_eq_zero_iff.mp hl
    subst this; exact List.Perm.refl _
  | x :: a, b, hn, hs, hl => by
    have hx := hs x List.mem_cons_self
    have hn2 := List.nodup_cons.mp hn
    have hp := List.perm_cons_erase hx
    refine List.Perm.trans ((perm_of_sub a (b.erase x) hn2.2 (fun y hy => ?_) ?_).cons x) hp.symm
    · refine (List.mem_erase_of_ne (fun e => ?_)).mpr (hs y (List.mem_cons_of_mem _ hy))
      subst e; exact hn2.1 hy
    · have := hp.length_eq
      simp only [List.length_cons] at this hl
      omega
def ints (n : Nat) : List Int := (List.range n).map fun (i : Nat) => (i : Int)
theorem ints_nodup (n : Nat) : (ints n).Nodup := by
  unfold ints
  rw [List.nodup_iff_pairwise_ne, List.pairwise_map]
  exact List.nodup_range.imp fun h e => h (by omega)
theorem ints_mem {n : Nat} {x : Int} : x ∈ ints n ↔ 0 ≤ x ∧ x < (n : Int) := by
  unfold ints
  rw [List.mem_map]
  constructor
  · rintro ⟨i, hi, rfl⟩
    have := List.mem_range.mp hi
    omega
  · intro h
    exact ⟨x.toNat, List.mem_range.mpr (by omega), by omega⟩
theorem ints_len (n : Nat) : (ints n).length = n := by simp [ints]
theorem PermOf.perm {n : Nat} {q : List Int} (h : PermOf n q) : q.Perm (ints n) := perm_of_sub q _ h.nd (fun x hx => ints_mem.mpr (h.rng x hx)) (by rw [ints_len, h.len])
theorem PermOf.of {n : Nat} {q : List Int} (hl : q.length = n) (hs : ∀ x : Nat, x < n → (x : Int) ∈ q) : PermOf n q := by
  have hp : (ints n).Perm q := perm_of_sub _ _ (ints_nodup n) (fun x hx => by
    obtain ⟨h0, h1⟩ := ints_mem.mp hx
    have := hs x.toNat (by omega)
    rwa [Int.toNat_of_nonneg h0] at this) (by rw [ints_len, hl])
  exact ⟨hl, fun x hx => ints_mem.mp (hp.symm.subset hx), hp.nodup_iff.mp (ints_nodup n)⟩
theorem PermOf.all {n : Nat} {q : List Int} (h : PermOf n q) (x : Nat) (hx : x < n) : (x : Int) ∈ q := h.perm.symm.subset (ints_mem.mpr ⟨by omega, by omega⟩)

theorem rdI_drop {l : List Int} {i : Nat} (h : i < l.length) : l.drop i = rd l (i : Int) :: l.drop (i + 1) := rd_drop h
/-! ### what match grows -/
theorem rdL_drop {l : List (List Int)} {i : Nat} (h : i < l.length) : l.drop i = rd_L1 l (i : Int) :: l.drop (i + 1) := by
  rw [List.drop_eq_getElem_cons h]
  simp [rd_L1, List.getD_eq_getElem?_getD, List.getElem?_eq_getElem h]
theorem rdL_mem {l : List (List Int)} {i : Nat} (h : i < l.length) : rd_L1 l (i : Int) ∈ l := List.mem_of_mem_drop (rdL_drop h ▸ List.mem_cons_self)
end Go.Proofs.Ytefmafbbnkkpjaa.Pure
