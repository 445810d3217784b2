/- The walk of the sort of rows behind Below: falling, as slices.Compare tells. -/
import Derived.Test.YtefmafbbnkkpjaaXG4a
import Derived.Test.YtefmafbbnkkpjaaL2
import Derived.Test.YtefmafbbnkkpjaaL4
import Derived.Sort.OwnSortedInts
import Derived.Lib.Hide
import Derived.Shelf.Abstract
namespace Go.Proofs.Ytefmafbbnkkpjaa.X
open Go Go.Sort Go.RowKit Go.Shelf Go.Proofs.YtefmafbbnkkpjaaW.PrintWords Go.Proofs.YtefmafbbnkkpjaaW.PrintLast Go.Proofs.YtefmafbbnkkpjaaW.PrintMore
set_option linter.unusedVariables false
set_option linter.unusedSimpArgs false

/-! ### What slices.Compare tells of two lists -/
def cmpL : List Int → List Int → Int
  | [], [] => 0
  | [], _ :: _ => -1
  | _ :: _, [] => 1
  | x :: a, y :: b => if x < y then -1 else if y < x then 1 else cmpL a b
theorem cmpL_anti : ∀ a b, cmpL b a = - cmpL a b
  | [], [] => rfl
  | [], _ :: _ => rfl
  | _ :: _, [] => rfl
  | x :: a, y :: b => by
    have := cmpL_anti a b
    unfold cmpL
    by_cases h1 : x < y
    · rw [if_pos h1, if_neg (by omega), if_pos h1]; rfl
    · by_cases h2 : y < x
      · rw [if_pos h2, if_neg h1, if_pos h2]
      · rw [if_neg h1, if_neg h2, if_neg h2, if_neg h1, this]
theorem cmpL_zero : ∀ {a b}, cmpL a b = 0 → a = b
  | [], [], _ => rfl
  | [], _ :: _, h => by simp [cmpL] at h
  | _ :: _, [], h => by simp [cmpL] at h
  | x :: a, y :: b, h => by
    unfold cmpL at h
    by_cases h1 : x < y
    · rw [if_pos h1] at h; omega
    · by_cases h2 : y < x
      · rw [if_neg h1, if_pos h2] at h; omega
      · rw [if_neg h1, if_neg h2] at h
        rw [cmpL_zero h, show x = y by omega]
theorem cmpL_self (a : List Int) : cmpL a a = 0 := by have := cmpL_anti a a; omega
theorem cmpL_le_trans : ∀ {a b c}, cmpL a b ≤ 0 → cmpL b c ≤ 0 → cmpL a c ≤ 0 ∧ (cmpL a b < 0 ∨ cmpL b c < 0 → cmpL a c < 0)
  | [], [], c, _, h2 => ⟨h2, fun h => h.elim (fun h => by simp [cmpL] at h) id⟩
  | [], _ :: _, [], _, h2 => by simp [cmpL] at h2
  | [], _ :: _, _ :: _, _, _ => by simp [cmpL]
  | _ :: _, [], _, h1, _ => by simp [cmpL] at h1
  | _ :: _, _ :: _, [], _, h2 => by simp [cmpL] at h2
  | x :: a, y :: b, z :: c, h1, h2 => by
    have ih := @cmpL_le_trans a b c
    unfold cmpL at h1 h2 ⊢
    by_cases p1 : x < y
    · by_cases p2 : y < z
      · rw [if_pos (show x < z by omega)]; simp
      · by_cases p3 : z < y
        · rw [if_neg p2, if_pos p3] at h2; omega
        · rw [if_pos (show x < z by omega)]; simp
    · by_cases p1' : y < x
      · rw [if_neg p1, if_pos p1'] at h1; omega
      · rw [if_neg p1, if_neg p1'] at h1
        by_cases p2 : y < z
        · rw [if_pos (show x < z by omega)]; simp
        · by_cases p3 : z < y
          · rw [if_neg p2, if_pos p3] at h2; omega
          · rw [if_neg p2, if_neg p3] at h2
            rw [if_neg p1, if_neg p1', if_neg p2, if_neg p3, if_neg (show ¬ x < z by omega), if_neg (show ¬ z < x by omega)]
            exact ih h1 h2
theorem cmp1_f (x y : Int) : cmp_Compare_int.f x y = some (if x < y then -1 else if y < x then 1 else 0) := by
  unfold cmp_Compare_int.f cmp_isNaN_int.f
  rw [Option.bind_some, Option.bind_some]
  have e1 : (x != x) = false := by simp
  have e2 : (y != y) = false := by simp
  rw [e1, e2, if_neg (by decide), if_neg (by decide)]
  by_cases h1 : x < y
  · rw [if_pos h1, if_pos h1]
  · rw [if_neg h1, if_neg h1]
    by_cases h2 : y < x
    · rw [if_pos h2, if_pos h2]
    · rw [if_neg h2, if_neg h2]
theorem rdC (l : List Int) (i : Nat) (h : i < l.length) : rd l (i : Int) = l[i] := by
  show l.getD ((i : Int).toNat) 0 = l[i]
  rw [Int.toNat_natCast, List.getD_eq_getElem?_getD, List.getElem?_eq_getElem h, Option.getD_some]
theorem Compare_l (a b : List Int) (hl : a.length ≤ 1000) (d : Nat) : ∀ (k i : Nat), i + d = a.length → d < k →
    slices_Compare_int_int.l0 k a b a (a.length : Int) (i : Int) = some (if i ≤ b.length then cmpL (a.drop i) (b.drop i) else if d = 0 then 0 else 1) := by
  induction d with
  | zero =>
    intro k i hi hk
    obtain ⟨k, rfl⟩ : ∃ m, k = m + 1 := ⟨k - 1, by omega⟩
    simp only [slices_Compare_int_int.l0]
    rw [if_neg (by omega), List.drop_eq_nil_of_le (show a.length ≤ i by omega)]
    by_cases h : i ≤ b.length
    · rw [if_pos h]
      by_cases h2 : i = b.length
      · rw [if_neg (by omega), List.drop_eq_nil_of_le (show b.length ≤ i by omega)]; rfl
      · rw [if_pos (by omega), List.drop_eq_getElem_cons (show i < b.length by omega)]; rfl
    · rw [if_neg h, if_neg (by omega)]; simp
  | succ d ih =>
    intro k i hi hk
    obtain ⟨k, rfl⟩ : ∃ m, k = m + 1 := ⟨k - 1, by omega⟩
    have hlt : i < a.length := by omega
    simp only [slices_Compare_int_int.l0]
    rw [if_pos (by omega), if_pos (by omega), if_pos (by omega), rdC a i hlt, List.drop_eq_getElem_cons hlt]
    by_cases h : i < b.length
    · rw [if_neg (by omega), if_pos (by omega), rdC b i h, cmp1_f, Option.bind_some, List.drop_eq_getElem_cons h, if_pos (show i ≤ b.length by omega)]
      unfold cmpL
      by_cases h1 : a[i] < b[i]
      · simp only [if_pos h1]
        rw [if_neg (by omega)]
      · by_cases h2 : b[i] < a[i]
        · simp only [if_neg h1, if_pos h2]
          rw [if_neg (by omega)]
        · simp only [if_neg h1, if_neg h2, if_true]
          rw [show wrap64 ((i : Int) + 1) = ((i + 1 : Nat) : Int) by unfold wrap64; omega, ih k (i + 1) (by omega) (by omega), if_pos (by omega)]
    · rw [if_pos (by omega)]
      by_cases h2 : i = b.length
      · rw [if_pos (by omega), List.drop_eq_nil_of_le (show b.length ≤ i by omega)]; rfl
      · rw [if_neg (by omega), if_neg (by omega)]
theorem Compare_f (a b : List Int) (hl : a.length ≤ 1000) (k : Nat) (hk : a.length < k) : slices_Compare_int_int.f k a b = some (cmpL a b) := by
  have h := Compare_l a b hl a.length k 0 (by omega) hk
  rw [if_pos (by omega), List.drop_zero, List.drop_zero] at h
  exact h
/-- A falling list that is another strictly falling one in some order is it. -/
theorem fall_unique : ∀ {r s : List (List Int)}, r.Perm s → r.Pairwise (fun x y => 0 ≤ cmpL x y) → s.Pairwise (fun x y => 0 < cmpL x y) → r = s
  | [], s, hp, _, _ => (List.nil_perm.mp hp).symm
  | x :: r, [], hp, _, _ => by have := hp.length_eq; simp at this
  | x :: r, y :: s, hp, hr, hs => by
    by_cases e : x = y
    · subst e
      rw [fall_unique ((List.perm_cons x).mp hp) hr.of_cons hs.of_cons]
    · have h1 : x ∈ y :: s := hp.subset (by simp)
      have h2 : y ∈ x :: r := hp.symm.subset (by simp)
      have h3 := (List.pairwise_cons.mp hs).1 x ((List.mem_cons.mp h1).resolve_left e)
      have h4 := (List.pairwise_cons.mp hr).1 y ((List.mem_cons.mp h2).resolve_left (fun h => e h.symm))
      have := cmpL_anti x y
      omega

/-! ### The sort -/
section
variable {enc : Nat → Value}
theorem heap_srt {w : World} {g n : Nat} {os : Array Obj} {cur : Array Value} {e : TypeId} {fr : Nat × Nat} (d : Array Nat) (hb : w.heap[g]? = some (.cells cur e fr)) :
    (grow (putRow enc (Sort.ahead w n) g 0 d) os).heap[g]? = some (.cells (putCells enc 0 d cur) e fr) := by
  have hg : g < w.heap.size := (Array.getElem?_eq_some_iff.1 hb).1
  rw [heap_grow_old _ _ (by simpa using hg)]
  simp [putRow, mapBlock, Sort.ahead, Array.getElem?_modify, hb, onCells]
theorem grown_srt {w : World} {g n : Nat} {os : Array Obj} (d : Array Nat) : w.grownBy (grow (putRow enc (Sort.ahead w n) g 0 d) os) (some g) := by
  refine ⟨rfl, rfl, rfl, by simp, fun k hk hne => ?_⟩
  rw [heap_grow_old _ _ (by simpa using hk)]
  have : g ≠ k := fun e => hne (by rw [e])
  simp [putRow, mapBlock, Sort.ahead, Array.getElem?_modify, this]
theorem take_srt (cur : Array Value) (ts : List Nat) (h : ts.length ≤ cur.size) : (putCells enc 0 ts.toArray cur).toList.take ts.length = ts.map enc := by
  apply List.ext_getElem?
  intro j
  by_cases hj : j < ts.length
  · rw [List.getElem?_take_of_lt hj, Array.getElem?_toList]
    simp [putCells, hj, show j < cur.size by omega]
  · rw [List.getElem?_take_eq_none (by omega), List.getElem?_eq_none (by simp; omega)]
theorem owns_srt {w : World} {base g cap n m : Nat} {e : TypeId} {os : Array Obj} {cur : Array Value} {ts : List Nat} (hl : ts.length = m) (hbase : base ≤ g) (hb : w.heap[g]? = some (.cells cur e (0, 0)))
    (h1 : m ≤ cap) (h2 : cap ≤ maxLen) (h3 : cur.size = cap * 1) :
    (grow (putRow enc (Sort.ahead w n) g 0 ts.toArray) os).ownsRow base e 1 (.slice (some ⟨g, 0, none⟩) m cap) m (ts.map enc) :=
  ⟨by simp [hl], .inr ⟨g, cap, _, rfl, hbase, heap_srt _ hb, h1, h2, by simp [putCells, h3], by rw [Nat.mul_one, ← hl]; exact take_srt cur ts (by omega)⟩⟩
end
theorem hlen105 (n : Nat) (W : World) (h : n ≤ 12) : Calls Try.prog 105 #[.int .u64 n] W fun e w' => (∃ l : Int, e = .returned (.int .i64 l)) ∧ w' = W :=
  (Any.bits_Len Try.vbitsLen n W (by omega) (by omega)).mono fun _ _ ⟨he, hw⟩ => ⟨⟨_, he⟩, hw⟩
def rowAt (L : List (List Int)) (i : Nat) : List Int := L.getD i []
theorem rowAt_lt (L : List (List Int)) (i : Nat) (h : i < L.length) : rowAt L i = L[i] := by
  rw [rowAt, List.getD_eq_getElem?_getD, List.getElem?_eq_getElem h, Option.getD_some]
theorem rowAt_mem (L : List (List Int)) (i : Nat) : rowAt L i = [] ∨ rowAt L i ∈ L := by
  by_cases h : i < L.length
  · rw [rowAt_lt L i h]; exact .inr (List.getElem_mem h)
  · left; rw [rowAt, List.getD_eq_getElem?_getD, List.getElem?_eq_none (by omega)]; rfl
theorem range_rows (L : List (List Int)) : (List.range L.length).map (rowAt L) = L := by
  apply List.ext_getElem (by simp)
  intro i h1 h2
  simp [rowAt_lt L i h2]
def cfR (L : List (List Int)) (x y : Nat) : Int := cmpL (rowAt L y) (rowAt L x)
theorem cfR_swo (L : List (List Int)) : SWO (ltOf (cfR L)) where
  irrefl := fun x => by simp [ltOf, cfR, cmpL_self]
  trans := fun x y z h1 h2 => by
    have h1' : cmpL (rowAt L y) (rowAt L x) < 0 := of_decide_eq_true h1
    have h2' : cmpL (rowAt L z) (rowAt L y) < 0 := of_decide_eq_true h2
    refine decide_eq_true (p := cmpL (rowAt L z) (rowAt L x) < 0) ?_
    exact (cmpL_le_trans (a := rowAt L z) (b := rowAt L y) (c := rowAt L x) (by omega) (by omega)).2 (.inl h2')
  ntrans := fun x y z h1 h2 => by
    have h1' : ¬ cmpL (rowAt L y) (rowAt L x) < 0 := of_decide_eq_false h1
    have h2' : ¬ cmpL (rowAt L z) (rowAt L y) < 0 := of_decide_eq_false h2
    refine decide_eq_false (p := cmpL (rowAt L z) (rowAt L x) < 0) ?_
    have a1 := cmpL_anti (rowAt L y) (rowAt L x)
    have a2 := cmpL_anti (rowAt L z) (rowAt L y)
    have a3 := cmpL_anti (rowAt L z) (rowAt L x)
    have := (cmpL_le_trans (a := rowAt L x) (b := rowAt L y) (c := rowAt L z) (by omega) (by omega)).1
    omega
theorem sort80_calls (w0 W : World) (g cap : Nat) (L : List (List Int)) (h12 : L.length ≤ 12) (hlen : ∀ r, r ∈ L → r.length ≤ 20) (hb0 : Below w0.heap.size w0 W)
    (ho0 : Kd.R (Kd.slice 3 (Kd.int .i64)) 22 W w0.heap.size (fun _ => True) (.slice (some ⟨g, 0, none⟩) L.length cap) L) (hg0 : w0.heap.size ≤ g) :
    Calls Try.prog 80 #[.slice (some ⟨g, 0, none⟩) L.length cap, .func (.func 81) #[] #[]] W fun e w' => e = .returned (.tuple #[]) ∧
      ∃ L' : List (List Int), L'.Perm L ∧ L'.Pairwise (fun x y => 0 ≤ cmpL x y) ∧ Kd.R (Kd.slice 3 (Kd.int .i64)) 22 w' w0.heap.size (fun _ => True) (.slice (some ⟨g, 0, none⟩) L.length cap) L' ∧ Below w0.heap.size w0 w' := by
  obtain ⟨hok, inner, hown, hrows⟩ := ho0
  have hcells := hown.cells (g := g) (by simp [Value.ownBlock])
  obtain ⟨hl, hcase⟩ := hown
  have hl' : inner.length = L.length := by rw [hl]; exact Nat.mul_one _
  rcases hcase with ⟨h0, _⟩ | ⟨g', cap', cur, hv, hbase, hb, h1, h2, h3, ht⟩
  · cases h0
  injection hv with ha _ hc
  injection ha with ha
  injection ha with hg
  subst hg
  subst hc
  let enc : Nat → Value := fun i => inner.getD i (.slice none 0 0)
  have hE : ∀ i, Kd.R (Kd.int .i64) 3 W w0.heap.size (fun k => True ∧ some k ≠ (Value.slice (some ⟨g, 0, none⟩) L.length cap).ownBlock) (enc i) (rowAt L i) := by
    intro i
    by_cases hi : i < L.length
    · obtain ⟨v, e, hR⟩ := hrows.2 i L[i] (List.getElem?_eq_getElem hi)
      have e2 : enc i = v := by
        show inner.getD i _ = v
        have hi2 : i < inner.length := by omega
        rw [show (Kd.slice 3 (Kd.int .i64)).sz = 1 from rfl, Nat.mul_one, List.drop_eq_getElem_cons hi2] at e
        simp only [List.take_succ_cons, List.take_zero] at e
        rw [List.getD_eq_getElem?_getD, List.getElem?_eq_getElem hi2]
        exact (List.cons.inj e).1
      rw [e2, rowAt_lt L i hi]
      exact hR
    · have e1 : enc i = .slice none 0 0 := by
        show inner.getD i _ = _
        rw [List.getD_eq_getElem?_getD, List.getElem?_eq_none (by omega)]; rfl
      have e2 : rowAt L i = [] := by rw [rowAt, List.getD_eq_getElem?_getD, List.getElem?_eq_none (by omega)]; rfl
      rw [e1, e2]
      exact Kd.R_nil _ _ _ _ _
  have hG : ∀ (m : Nat) (os : Array Obj) (dk : Array Nat) (i : Nat), Kd.R (Kd.int .i64) 3 (sortWorld enc W g 0 m dk os) w0.heap.size (fun k => True ∧ some k ≠ (Value.slice (some ⟨g, 0, none⟩) L.length cap).ownBlock) (enc i) (rowAt L i) :=
    fun m os dk i => Kd.R_grown (hE i) (grown_srt dk) (fun k hk => by simpa [Value.ownBlock] using hk.2)
  have hO : OneCell enc := fun i => by
    obtain ⟨A, c, e, _, _⟩ := Kd.R_reads (hE i)
    rw [e]; rfl
  have hcmp : CmpReads Try.prog 81 #[] enc (cfR L) g 0 (List.range L.length).toArray.size W := by
    intro m os dk _ x y
    obtain ⟨A, c, e, hle, hC⟩ := Kd.R_reads (hG m os dk x)
    obtain ⟨A2, c2, e2, hle2, hC2⟩ := Kd.R_reads (hG m os dk y)
    rw [e, e2]
    have hy : (rowAt L y).length ≤ 1000 := by
      rcases rowAt_mem L y with h | h
      · rw [h]; simp
      · have := hlen _ h; omega
    have h := shares_Below_2.calls 2000 A c (rowAt L x) A2 c2 (rowAt L y) (cfR L x y) (sortWorld enc W g 0 m dk os) hC hle hC2 hle2 (by
      unfold shares_Below_2.f
      rw [Compare_f _ _ hy _ (by omega)]
      rfl)
    exact h.mono fun e w' ⟨he, hd⟩ => ⟨he, by obtain ⟨n, hn⟩ := hd; exact ⟨n, hn⟩⟩
  have hH : Holds enc W g 0 (List.range L.length).toArray := by
    intro j hj
    have hj' : j < L.length := by simpa using hj
    have hi2 : j < inner.length := by omega
    refine ⟨?_, blk_frozen hb _⟩
    have := hcells j _ (List.getElem?_eq_getElem hi2)
    rw [add_plain] at this
    rw [Nat.zero_add, this]
    simp [enc, hj', hi2]
  have hs := Any.slices_SortFunc_small_sorted Try.vsortR enc hO (cfR L) (cfR_swo L) 81 #[] g 0 cap (List.range L.length).toArray W (enters_of Try.func81 (by kernel_rfl) rfl) hcmp hH (by simpa using h12) hlen105
  rw [show (List.range L.length).toArray.size = L.length from by simp] at hs
  refine hs.mono fun e w' ⟨he, d', n, hp, hso, hw⟩ => ⟨he, ?_⟩
  obtain ⟨hsz, _, hpm⟩ := hp
  have hds : d'.size = L.length := by simpa using hsz
  have hpm2 : d'.toList.Perm (List.range L.length) := by
    have a1 : d'.extract 0 L.length = d' := by rw [← hds]; simp
    have a2 : (List.range L.length).toArray.extract 0 L.length = (List.range L.length).toArray := by simp
    rw [a1, a2] at hpm
    simpa using hpm
  have hW : w' = grow (putRow enc (Sort.ahead W n) g 0 d'.toList.toArray) #[] := by
    rw [hw, ← sortWorld_none]
    rfl
  refine ⟨d'.toList.map (rowAt L), ?_, ?_, ?_, ?_⟩
  · exact (hpm2.map _).trans (by rw [range_rows])
  · rw [List.pairwise_iff_getElem]
    intro i j hi hj hij
    simp only [List.length_map, Array.length_toList] at hi hj
    have h := hso i j (by omega) hij (by omega)
    have h : ¬ cfR L d'[j]! d'[i]! < 0 := of_decide_eq_false h
    unfold cfR at h
    simp only [List.getElem_map, Array.getElem_toList]
    rw [getElem!_pos d' i hi, getElem!_pos d' j hj] at h
    omega
  · have hlt : d'.toList.length = L.length := by simpa using hds
    refine ⟨fun _ _ => trivial, d'.toList.map enc, ?_, ?_, fun j p hp => ?_⟩
    · rw [hW, List.length_map, hlt]
      exact owns_srt hlt hbase hb h1 h2 h3
    · simp only [List.length_map]
      exact (Nat.mul_one _).symm
    · have hj : j < d'.toList.length := by
        have := (List.getElem?_eq_some_iff.mp hp).1
        simpa using this
      have hp2 : p = rowAt L d'.toList[j] := by
        rw [List.getElem?_map, List.getElem?_eq_getElem hj] at hp
        exact (Option.some.inj hp).symm
      refine ⟨enc d'.toList[j], ?_, ?_⟩
      · rw [show (Kd.slice 3 (Kd.int .i64)).sz = 1 from rfl, Nat.mul_one, List.drop_eq_getElem_cons (show j < (d'.toList.map enc).length by simpa using hj)]
        simp
      · rw [hp2, hW]
        exact hG n #[] _ _
  · rw [hW]
    exact hb0.grown (grown_srt _) (below_size hb0) (fun k hk => by cases hk; exact hg0)
end Go.Proofs.Ytefmafbbnkkpjaa.X
