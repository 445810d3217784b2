/- The list of counters in the reference's type, and its comparison. -/
import Derived.Test.YtdffhffhnjkcpaaXG1a
import Derived.Test.YtdffhffhnjkcpaaXG2a
import Derived.Test.YtdffhffhnjkcpaaS8
import Derived.Test.YtdffhffhnjkcpaaS1
namespace Go.Proofs.Ytdffhffhnjkcpaa.X
open Go.RowKit Go.Proofs.YtdffhffhnjkcpaaW.PrintWords Go.Proofs.YtdffhffhnjkcpaaW.PrintLast Go.Proofs.YtdffhffhnjkcpaaW.PrintMore
set_option linter.unusedVariables false
set_option linter.unusedSimpArgs false

def mcv (c : S70) : S64 := ⟨c.f0, c.f1, c.f2⟩
def mwnL (l : List S70) : List S64 := l.map mcv
theorem mwnL_len (l : List S70) : (mwnL l).length = l.length := by simp [mwnL]
theorem rd_mwn (l : List S70) (i : Nat) (h : i < l.length) : rd_T64 (mwnL l) (i : Int) = mcv l[i] := by
  simp [rd_T64, mwnL, List.getD_eq_getElem?_getD, List.getElem?_map, List.getElem?_eq_getElem h]
theorem rd70q (l : List S70) (i : Nat) (h : i < l.length) : rd_T70 l (i : Int) = l[i] := by
  simp [rd_T70, List.getD_eq_getElem?_getD, List.getElem?_eq_getElem h]
theorem mwnL_snoc (l : List S70) (c : S70) : mwnL l ++ [mcv c] = mwnL (l ++ [c]) := by simp [mwnL]
theorem mwn_set (l : List S70) (i : Nat) (c : S70) : (mwnL l).set i (mcv c) = mwnL (l.set i c) := by
  simp [mwnL, List.map_set]
theorem mwn_l (l : List S70) (hl : l.length ≤ 1000) (d : Nat) : ∀ (k i : Nat), i + d = l.length → d < k →
    congoulaw03_own.l0 k (mwnL (l.take i)) l (l.length : Int) (i : Int) = some (mwnL l) := by
  induction d with
  | zero =>
    intro k i hi hk
    obtain ⟨k, rfl⟩ : ∃ m, k = m + 1 := ⟨k - 1, by omega⟩
    simp only [congoulaw03_own.l0]
    rw [if_neg (by omega), List.take_of_length_le (by omega)]
  | succ d ih =>
    intro k i hi hk
    obtain ⟨k, rfl⟩ : ∃ m, k = m + 1 := ⟨k - 1, by omega⟩
    have hlt : i < l.length := by omega
    simp only [congoulaw03_own.l0]
    rw [if_pos (by omega), if_pos (by omega), if_pos (by omega), if_pos (by rw [mwnL_len, List.length_take]; omega), rd70q l i hlt, w64 (by omega) (by omega), show (i : Int) + 1 = ((i + 1 : Nat) : Int) by omega]
    have := ih k (i + 1) (by omega) (by omega)
    rw [List.take_succ_eq_append_getElem hlt, ← mwnL_snoc] at this
    exact this
theorem mwn_f (l : List S70) (hl : l.length ≤ 1000) (k : Nat) (hk : l.length < k) : congoulaw03_own.f k l = some (mwnL l) := mwn_l l hl l.length k 0 (by omega) hk
theorem mq64_l (a : List S64) (hl : a.length ≤ 1000) (d : Nat) : ∀ (k i : Nat), i + d = a.length → d < k → congouref03_Count.l0 k a a (a.length : Int) (i : Int) = some true := by
  induction d with
  | zero =>
    intro k i hi hk
    obtain ⟨k, rfl⟩ : ∃ m, k = m + 1 := ⟨k - 1, by omega⟩
    simp only [congouref03_Count.l0]
    rw [if_neg (by omega)]
  | succ d ih =>
    intro k i hi hk
    obtain ⟨k, rfl⟩ : ∃ m, k = m + 1 := ⟨k - 1, by omega⟩
    simp only [congouref03_Count.l0]
    rw [if_pos (by omega), if_pos (by omega), if_pos (by omega), if_pos (by omega), if_neg (by simp), w64 (by omega) (by omega), show (i : Int) + 1 = ((i + 1 : Nat) : Int) by omega]
    exact ih k (i + 1) (by omega) (by omega)
theorem mq64_f (a : List S64) (hl : a.length ≤ 1000) (k : Nat) (hk : a.length < k) : congouref03_Count.f k a a = some true := by
  unfold congouref03_Count.f
  rw [if_pos rfl]
  exact mq64_l a hl a.length k 0 (by omega) hk
end Go.Proofs.Ytdffhffhnjkcpaa.X
