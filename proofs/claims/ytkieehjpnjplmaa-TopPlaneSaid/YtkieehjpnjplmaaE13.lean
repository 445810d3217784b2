/- The walk of slices.SortFunc at triples: at twelve or fewer, the order of an insertion sort by TopPlane's comparison. -/
import Derived.Test.YtkieehjpnjplmaaE14
import Derived.Test.YtkieehjpnjplmaaL2
import Derived.Shelf.Abstract
import Derived.Lib.SlKeysI
namespace Go.Proofs.Ytkieehjpnjplmaa
open Go Go.Proofs Go.RowKit Go.Shelf Go.Sort Go.Lib Go.Proofs.Ytkieehjpnjplmaa.X Go.Proofs.YtkieehjpnjplmaaW.PrintWords Go.Proofs.YtkieehjpnjplmaaW.PrintLast Go.Proofs.YtkieehjpnjplmaaW.PrintMore
attribute [local go_sem] Oper.semAt_some
set_option linter.unusedVariables false
set_option linter.unusedSimpArgs false
instance : Inhabited S39 := ⟨z39⟩
def Vs.enc (x : S39) : List Value := [.int .i64 x.f0, .int .i64 x.f1, .int .i64 x.f2]
def Vs.flat (zs : List S39) : List Value := zs.flatMap Vs.enc
theorem Vs.cmp_calls (x y : S39) (W : World) : Calls Try.prog 14 #[.agg #[.int .i64 x.f0, .int .i64 x.f1, .int .i64 x.f2], .agg #[.int .i64 y.f0, .int .i64 y.f1, .int .i64 y.f2]] W fun e w' => e = .returned (.int .i64 (cmp3 x y)) ∧ ∃ q os', w' = grow (W.drewN q) os' :=
  (cmp14_calls x y W).mono fun e w' h9 => by
    obtain ⟨he, q, rfl⟩ := h9
    exact ⟨he, q, _, by rw [alloc_eq_grow, alloc_eq_grow, grow_grow]; rfl⟩
theorem Vs.cmp_lays (blk off size : Nat) (w : World) : CmpLays Try.prog 14 #[] Vs.enc 3 cmp3 blk off size w :=
  fun _ _ _ _ x y => Vs.cmp_calls x y _
theorem Vs.hlen (n : Nat) (W : World) (h : n ≤ 12) : Calls Try.prog 29 #[.int .u64 n] W fun e w' => (∃ l : Int, e = .returned (.int .i64 l)) ∧ w' = W :=
  (Any.bits_Len Try.vbitsLen n W (by omega) (by omega)).mono fun _ _ ⟨he, hw⟩ => ⟨⟨_, he⟩, hw⟩
theorem Vs.flat_length (zs : List S39) : (Vs.flat zs).length = zs.length * 3 := by
  induction zs with
  | nil => rfl
  | cons x zs ih => simp only [Vs.flat, List.flatMap_cons, List.length_append, List.length_cons] at *; rw [ih]; simp [Vs.enc]; omega
theorem Vs.flat_cons (x : S39) (zs : List S39) : Vs.flat (x :: zs) = Vs.enc x ++ Vs.flat zs := rfl
theorem Vs.flat_drop : ∀ (zs : List S39) (j : Nat) (p : S39), zs[j]? = some p → ((Vs.flat zs).drop (j * 3)).take 3 = Vs.enc p
  | [], j, p, h => by simp at h
  | x :: zs, 0, p, h => by
    obtain rfl : x = p := by simpa using h
    rw [Vs.flat_cons]
    rfl
  | x :: zs, j + 1, p, h => by
    rw [Vs.flat_cons, show (j + 1) * 3 = 3 + j * 3 by omega, ← List.drop_drop, List.drop_left' (by rfl)]
    exact Vs.flat_drop zs j p (by simpa using h)
theorem Vs.flat_get (zs : List S39) (t : Nat) (h : t < zs.length * 3) : (Vs.flat zs)[t]? = (Vs.enc (zs[t / 3]'(by omega)))[t % 3]? := by
  have e := Vs.flat_drop zs (t / 3) _ (List.getElem?_eq_getElem (by omega))
  rw [← e, List.getElem?_take_of_lt (by omega), List.getElem?_drop]
  congr 1
  omega
theorem Vs.flatK_eq (d : Array S39) : (flatK Vs.enc 3 d).toList = Vs.flat d.toList := by
  apply List.ext_getElem?
  intro t
  by_cases h : t < d.size * 3
  · rw [Vs.flat_get d.toList t (by simpa using h)]
    have h3 : t % 3 = 0 ∨ t % 3 = 1 ∨ t % 3 = 2 := by omega
    have hd : t / 3 < d.size := by omega
    simp only [flatK, Array.getElem?_toList, Array.getElem_toList]
    rw [Array.getElem?_eq_getElem (by simpa using h)]
    simp only [Array.getElem_map, Array.getElem_range]
    rw [getElem!_pos d (t / 3) hd]
    rcases h3 with h3 | h3 | h3 <;> rw [h3] <;> simp [Vs.enc]
  · rw [List.getElem?_eq_none (by simp; omega), List.getElem?_eq_none (by rw [Vs.flat_length]; simp; omega)]
theorem Vs.holds {w : World} {g : Nat} {cur : Array Value} {e : TypeId} {zs : List S39} (hb : w.heap[g]? = some (.cells cur e (0, 0))) (ht : cur.toList.take (zs.length * 3) = Vs.flat zs) : HoldsK Vs.enc 3 w g 0 zs.toArray := by
  intro j hj
  have hj' : j < zs.length * 3 := by simpa using hj
  refine ⟨?_, by simp [World.frozen?, hb]⟩
  rw [Nat.zero_add, cell_of_row _ _ _ _ _ _ hb]
  have h1 : (cur.toList.take (zs.length * 3))[j]? = (Vs.flat zs)[j]? := by rw [ht]
  rw [List.getElem?_take_of_lt hj', Array.getElem?_toList] at h1
  rw [h1]
  have h2 : (flatK Vs.enc 3 zs.toArray)[j]! = (flatK Vs.enc 3 zs.toArray)[j]'hj := getElem!_pos _ j hj
  rw [h2]
  have h3 := Vs.flatK_eq zs.toArray
  rw [← h3, Array.getElem?_toList, Array.getElem?_eq_getElem hj]
  rfl
theorem Vs.heap_sorted {w : World} {g n : Nat} {os : Array Obj} {cur : Array Value} {e : TypeId} {fr : Nat × Nat} (d : Array Value) (hb : w.heap[g]? = some (.cells cur e fr)) :
    (grow (putRow id (Sort.ahead w n) g 0 d) os).heap[g]? = some (.cells (putCells id 0 d cur) e fr) := by
  have hg : g < w.heap.size := (Array.getElem?_eq_some_iff.1 hb).1
  rw [heap_grow_old _ _ (by simpa using hg)]
  simp [putRow, mapBlock, Sort.ahead, Array.getElem?_modify, hb, onCells]
theorem Vs.grown_sorted {w : World} {g n : Nat} {os : Array Obj} (d : Array Value) : w.grownBy (grow (putRow id (Sort.ahead w n) g 0 d) os) (some g) := by
  refine ⟨rfl, rfl, rfl, by simp, fun k hk hne => ?_⟩
  rw [heap_grow_old _ _ (by simpa using hk)]
  have : g ≠ k := fun e => hne (by rw [e])
  simp [putRow, mapBlock, Sort.ahead, Array.getElem?_modify, this]
theorem Vs.take_put (cur F : Array Value) (h : F.size ≤ cur.size) : (putCells id 0 F cur).toList.take F.size = F.toList := by
  apply List.ext_getElem?
  intro j
  by_cases hj : j < F.size
  · rw [List.getElem?_take_of_lt hj, Array.getElem?_toList]
    simp [putCells, hj, show j < cur.size by omega]
  · rw [List.getElem?_take_eq_none (by omega), List.getElem?_eq_none (by simp; omega)]
theorem Vs.owns_sorted {w : World} {base g cap n : Nat} {os : Array Obj} {cur : Array Value} {zs : List S39} {d : Array S39} (hl : d.size = zs.length) (hbase : base ≤ g) (hb : w.heap[g]? = some (.cells cur 39 (0, 0)))
    (h1 : zs.length ≤ cap) (h2 : cap ≤ maxLen) (h3 : cur.size = cap * 3) :
    (sortWorldK Vs.enc 3 w g 0 n d os).ownsRow base 39 3 (.slice (some ⟨g, 0, none⟩) zs.length cap) zs.length (Vs.flat d.toList) := by
  have hle : zs.length * 3 ≤ cap * 3 := Nat.mul_le_mul_right _ h1
  refine ⟨by rw [Vs.flat_length]; simp [hl], .inr ⟨g, cap, _, rfl, hbase, Vs.heap_sorted _ hb, h1, h2, by simp [putCells, h3], ?_⟩⟩
  rw [← Vs.flatK_eq, ← hl]
  have := Vs.take_put cur (flatK Vs.enc 3 d) (by rw [size_flatK]; omega)
  rwa [size_flatK] at this


/-- the triples as the sort lays them -/
def sort3 (l : List S39) : List S39 := (Sort.insertionSort (ltOf cmp3) l.toArray 0 l.length).toList
theorem swp_size3 {α : Type} [Inhabited α] (d : Array α) (i j : Nat) : (swp d i j).size = d.size := by simp [swp]
theorem insInner_size3 (lt : S39 → S39 → Bool) (a : Nat) : ∀ (j : Nat) (d : Array S39), (insInner lt a j d).size = d.size := by
  intro j
  induction j with
  | zero => intro d; rfl
  | succ j ih =>
    intro d
    unfold insInner
    split
    · rw [ih, swp_size3]
    · rfl
theorem insOuter_size3 (lt : S39 → S39 → Bool) (a b : Nat) : ∀ (n i : Nat) (d : Array S39), b - i = n → (insOuter lt a b i d).size = d.size := by
  intro n
  induction n with
  | zero => intro i d h; rw [insOuter, if_neg (by omega)]
  | succ n ih =>
    intro i d h
    rw [insOuter, if_pos (by omega), ih _ _ (by omega), insInner_size3]
theorem sort3_length (l : List S39) : (sort3 l).length = l.length := by
  unfold sort3 insertionSort
  rw [Array.length_toList, insOuter_size3 _ _ _ _ _ _ rfl]
  simp
theorem flat_of_reps {R : S39 → List Value → Prop} (hR : ∀ p c, R p c → c = Vs.enc p) {l : List S39} {inner : List Value} (h : Reps R 3 l inner) : inner = Vs.flat l := by
  apply List.ext_getElem?
  intro t
  by_cases ht : t < l.length * 3
  · have e := hR _ _ (h.2 (t / 3) _ (List.getElem?_eq_getElem (show t / 3 < l.length by omega)))
    rw [Vs.flat_get l t ht, ← e, List.getElem?_take_of_lt (by omega), List.getElem?_drop]
    congr 1
    omega
  · rw [List.getElem?_eq_none (by rw [h.1]; omega), List.getElem?_eq_none (by rw [Vs.flat_length]; omega)]
namespace X
def xSort3.f (l : List S39) : Option (List S39) := if l ≠ [] ∧ l.length ≤ 12 then some (sort3 l) else none
set_option maxHeartbeats 2000000 in
theorem xSort3.calls (P0_ : Nat → Prop) (u9000_ : Value) (l0 : List S39) (r : List S39) (w0 w : World) (hB : Below w0.heap.size w0 w) (ho0 : Kd.R k39 39 w w0.heap.size P0_ u9000_ l0) (h : xSort3.f l0 = some r) :
    Calls Try.prog 13 #[u9000_, .func (.func 14) #[] #[]] w fun e w' => e = .returned (.tuple #[]) ∧ Kd.R k39 39 w' w0.heap.size (fun k_ => (P0_ k_ ∨ w.heap.size ≤ k_)) u9000_ r ∧ Below w0.heap.size w0 w' ∧ Kept w w' (fun k_ => P0_ k_) := by
  unfold xSort3.f at h
  have hg : (l0 ≠ [] ∧ l0.length ≤ 12) ∧ r = sort3 l0 := by
    split at h
    · rename_i hh
      exact ⟨hh, (Option.some.inj h).symm⟩
    · cases h
  obtain ⟨⟨h0, h12⟩, rfl⟩ := hg
  clear h
  have hok := ho0.1
  obtain ⟨_, inner, hrow, hreps⟩ := ho0
  have hin : inner = Vs.flat l0 := flat_of_reps (fun p c hc => k39_openM hc) hreps
  subst hin
  clear hreps
  rcases hrow.2 with ⟨rfl, hz⟩ | ⟨gb, cap, cur, rfl, hbase, hgb, r1, r2, r3, r4⟩
  · exact absurd (List.length_eq_zero_iff.mp hz) h0
  · have eg : ∀ args w, (callFunc 14 args).run Try.prog w = .ok (.enter 14 args) w := enters_of Try.func14 (by kernel_rfl) rfl
    have hs := AnyQ.slices_SortFunc_small Try.vsort 3 Try.isAgg39 Try.sizeOf39 Vs.enc (fun _ => rfl) (fun x v hv => by simp [Vs.enc] at hv; rcases hv with rfl | rfl | rfl <;> rfl) cmp3 14 #[] gb 0 cap l0.toArray w eg (Vs.cmp_lays gb 0 l0.toArray.size w) (Vs.holds hgb r4) (Array.getElem?_eq_some_iff.1 hgb).1 (by simpa using h12) Vs.hlen
    rw [show l0.toArray.size = l0.length by simp] at hs
    change Calls Try.prog 13 _ _ _ at hs
    refine hs.mono ?_
    rintro e w' ⟨rfl, nn, os, rfl⟩
    have hl : (Sort.insertionSort (ltOf cmp3) l0.toArray 0 l0.length).size = l0.length := by
      have := sort3_length l0
      simpa [sort3] using this
    refine ⟨rfl, ?_, hB.grown (Vs.grown_sorted _) hB.size (fun j hj => by cases hj; exact hbase), Kept.of_grown (Vs.grown_sorted _) (Kept.refl _ _) (fun k hk => by cases hk; exact .inl (hok gb rfl))⟩
    have ho := Vs.owns_sorted (n := nn) (os := os) hl hbase hgb r1 r2 r3
    refine ⟨fun k hk => .inl (hok k hk), Vs.flat (sort3 l0), ?_, Vs.flat_length _, fun j p hj => ?_⟩
    · rw [sort3_length]; exact ho
    · show k39.M _ _ _ p (((Vs.flat (sort3 l0)).drop (j * 3)).take 3)
      rw [Vs.flat_drop _ j p hj]
      exact k39_mkM _ _ _ p
end X
end Go.Proofs.Ytkieehjpnjplmaa
