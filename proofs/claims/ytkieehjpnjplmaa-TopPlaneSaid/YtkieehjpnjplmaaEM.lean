/- A map of pairs of players that the call itself made: which pairs are in it. -/
import Derived.Test.YtkieehjpnjplmaaProg
import Derived.Maps.Own
import Derived.Maps.OwnOps
import Derived.Maps.OwnSet
import Derived.Maps.Views
import Derived.DeepKeys5
import Derived.KernelRfl
import Derived.OwnWalk
import Derived.WalkKit
namespace Go.Proofs.Ytkieehjpnjplmaa
open Go Go.Proofs Go.RowKit
open Go.Maps (Keyed)
set_option linter.unusedVariables false
set_option linter.unusedSimpArgs false
theorem keyed90 : Keyed Try.prog 90 := Keyed.of_law (deep_law_gate (by kernel_rfl) (of_decide_eq_true (by kernel_rfl)) (of_decide_eq_true (by kernel_rfl)) (by kernel_rfl) (by kernel_rfl))
/-- a pair as a key -/
def kl (x y : Int) : Lit := .string (keyBytes [.int .i64 x, .int .i64 y])
noncomputable def keyChk (x y : Nat) : Bool := match keyOf Try.prog 90 (.agg #[.int .i64 (x : Int), .int .i64 (y : Int)]) with
  | some (.string b) => b == keyBytes [.int .i64 (x : Int), .int .i64 (y : Int)]
  | _ => false
theorem key_chk : ((List.range 9).all fun x => (List.range 9).all fun y => keyChk x y) = true := by kernel_rfl
theorem key_mk {x y : Int} (hx : 0 ≤ x ∧ x < 9) (hy : 0 ≤ y ∧ y < 9) : keyOf Try.prog 90 (.agg #[.int .i64 x, .int .i64 y]) = some (kl x y) := by
  obtain ⟨a, rfl⟩ : ∃ a : Nat, x = a := ⟨x.toNat, by omega⟩
  obtain ⟨b, rfl⟩ : ∃ b : Nat, y = b := ⟨y.toNat, by omega⟩
  have h := List.all_eq_true.mp (List.all_eq_true.mp key_chk a (List.mem_range.mpr (by omega))) b (List.mem_range.mpr (by omega))
  unfold keyChk at h
  split at h
  · rename_i c hc
    rw [hc, eq_of_beq h]
    rfl
  · cases h
theorem kl_inj {x y x' y' : Int} (hx : 0 ≤ x ∧ x < 9) (hy : 0 ≤ y ∧ y < 9) (hx' : 0 ≤ x' ∧ x' < 9) (hy' : 0 ≤ y' ∧ y' < 9) (h : kl x y = kl x' y') : x = x' ∧ y = y' := by
  have h1 := key_mk hx hy
  have h2 := key_mk hx' hy'
  rw [h] at h1
  have := keyed90.inj h1 h2
  injection this with h3
  simp at h3
  exact h3
/-- block b is a map of pairs of players: just those of S are in it, as true -/
def TM (w : World) (b n : Nat) (S : List (Int × Int)) : Prop :=
  ∃ D : DataW Unit, w.ownsMap Try.prog 90 (plainElem Try.prog 4) b n D ∧ Maps.IsMap D ∧ ∀ x y : Int, 0 ≤ x ∧ x < 9 → 0 ≤ y ∧ y < 9 → D.atKey (kl x y) (.lit (.bool false)) = .lit (.bool (decide ((x, y) ∈ S)))
theorem TM.made (w : World) : TM (w.alloc (.map #[] 0)) w.heap.size 0 [] :=
  ⟨.map [], World.ownsMap_made _ _ _ _, ⟨[], rfl⟩, fun x y _ _ => by simp [DataW.atKey]⟩
theorem TM.kept {w w' : World} {b n : Nat} {S : List (Int × Int)} {row : Option Nat} (h : TM w b n S) (hg : w.grownBy w' row) (hne : some b ≠ row) : TM w' b n S := by
  obtain ⟨D, h1, h2⟩ := h
  exact ⟨D, h1.kept hg hne, h2⟩
theorem TM.lt {w : World} {b n : Nat} {S : List (Int × Int)} (h : TM w b n S) : b < w.heap.size := by
  obtain ⟨D, h1, _⟩ := h
  exact h1.lt
theorem TM.same {w w' : World} {b n : Nat} {S : List (Int × Int)} (h : TM w b n S) (e : w'.heap[b]? = w.heap[b]?) : TM w' b n S := by
  obtain ⟨D, ⟨es, c, hb, h1⟩, h2⟩ := h
  exact ⟨D, ⟨es, c, e.trans hb, h1⟩, h2⟩
theorem zero4 (w : World) : (zeroValue 4).run Try.prog w = .ok (.bool false) w := Try.zeroValue4 w
theorem bool_inv {P : Program} {e : TypeId} (he : P.underlying e = some .bool) {v : Value} {x : Bool} {ps : List MemPlace} (h : plainElem (H := Unit) P e v = some (.lit (.bool x), ps)) : v = .bool x := by
  unfold plainElem at h
  rw [he] at h
  cases v <;> simp at h
  rw [h.1]
theorem TM.look {w : World} {b n : Nat} {S : List (Int × Int)} (h : TM w b n S) {x y : Int} (hx : 0 ≤ x ∧ x < 9) (hy : 0 ≤ y ∧ y < 9) :
    (Instr.lookup 87 (.map (some b)) (.agg #[.int .i64 x, .int .i64 y]) false).run Try.prog w = .ok (.bool (decide ((x, y) ∈ S))) w := by
  obtain ⟨D, h1, _, h2⟩ := h
  obtain ⟨v, ps, hrun, hv⟩ := h1.lookup keyed90 Try.underlying87 (zero4 w) (plainElem_bool Try.underlying4 false) (key_mk hx hy)
  rw [h2 x y hx hy] at hv
  have := bool_inv Try.underlying4 hv
  rw [hrun, this]
theorem TM.put {w : World} {b n : Nat} {S : List (Int × Int)} (h : TM w b n S) (hn : n < maxLen) {x y : Int} (hx : 0 ≤ x ∧ x < 9) (hy : 0 ≤ y ∧ y < 9) :
    ∃ w', (Instr.mapUpdate 87 (.map (some b)) (.agg #[.int .i64 x, .int .i64 y]) (.bool true)).run Try.prog w = .ok () w' ∧ TM w' b (n + 1) ((x, y) :: S) ∧ w.grownBy w' (some b) := by
  obtain ⟨D, h1, hm, h2⟩ := h
  obtain ⟨w', hrun, h3, hg⟩ := h1.update keyed90 Try.underlying87 hn (key_mk hx hy) (plainElem_bool Try.underlying4 true)
  refine ⟨w', hrun, ⟨_, h3, h3.isMap, fun x' y' hx' hy' => ?_⟩, hg⟩
  by_cases e : x' = x ∧ y' = y
  · obtain ⟨rfl, rfl⟩ := e
    rw [Maps.atKey_put_same hm (keyed90.key (key_mk hx hy))]
    simp
  · rw [Maps.atKey_put_other (fun h9 => e (kl_inj hx' hy' hx hy h9)), h2 x' y' hx' hy']
    have : ((x', y') ∈ (x, y) :: S) ↔ ((x', y') ∈ S) := by
      rw [List.mem_cons]
      refine ⟨fun h9 => h9.resolve_left (fun h8 => e (by injection h8 with a b; exact ⟨a, b⟩)), .inr⟩
    simp only [this]
end Go.Proofs.Ytkieehjpnjplmaa
