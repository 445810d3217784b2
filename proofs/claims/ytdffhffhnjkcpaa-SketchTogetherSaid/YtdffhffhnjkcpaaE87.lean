/- The walk of told: a new slice that holds the counters in the order of their keys. -/
import Derived.Test.YtdffhffhnjkcpaaE112
import Derived.Test.YtdffhffhnjkcpaaL2
import Derived.Test.YtdffhffhnjkcpaaS8
import Derived.Lib.Hide
namespace Go.Proofs.Ytdffhffhnjkcpaa
open Go Go.Proofs Go.RowKit Go.Shelf Go.Sort Go.Lib
open X (S70 z70)
attribute [local go_sem] Oper.semAt_some
set_option linter.unusedVariables false
instance : Inhabited S70 := ⟨z70⟩

def Vs.cmp (x y : S70) : Int := Lib.compareInt x.f0 y.f0
set_option maxHeartbeats 1000000 in
theorem Vs.cmp_calls (x y : S70) (W : World) : Calls Try.prog 98 #[.agg #[.int .i64 x.f0, .int .i64 x.f1, .int .i64 x.f2], .agg #[.int .i64 y.f0, .int .i64 y.f1, .int .i64 y.f2]] W fun e w' => e = .returned (.int .i64 (Vs.cmp x y)) ∧ ∃ q os', w' = grow (W.drewN q) os' := by
  have hcon := fun W' => AnyG.cmp_Compare_int Try.vcmp x.f0 y.f0 W'
  change ∀ W', Calls Try.prog 85 _ _ _ at hcon
  unfold Vs.cmp
  generalize Lib.compareInt x.f0 y.f0 = r at hcon ⊢
  go_enter Try.func98, Try.ntmps98
  go_wp2_with (go_at_call 85; refine (hcon _).mono ?_; rintro e w' ⟨rfl, rfl⟩)
  go_ret
  exact ⟨rfl, 0, _, by rw [alloc_eq_grow, alloc_eq_grow, grow_grow]; rfl⟩
theorem Vs.cmp_lays (blk off size : Nat) (w : World) : CmpLays Try.prog 98 #[] Vs.enc 3 Vs.cmp blk off size w :=
  fun _ _ _ _ x y => Vs.cmp_calls x y _
theorem Vs.hlen (n : Nat) (W : World) (h : n ≤ 12) : Calls Try.prog 92 #[.int .u64 n] W fun e w' => (∃ l : Int, e = .returned (.int .i64 l)) ∧ w' = W :=
  (Any.bits_Len Try.vbitsLen n W (by omega) (by omega)).mono fun _ _ ⟨he, hw⟩ => ⟨⟨_, he⟩, hw⟩
theorem Vs.lt_iff (x y : S70) : ltOf Vs.cmp x y = true ↔ x.f0 < y.f0 := by
  unfold ltOf Vs.cmp Lib.compareInt
  simp
  split
  · simp_all
  · split <;> simp_all <;> omega
theorem Vs.swo : SWO (ltOf Vs.cmp) := by
  refine ⟨fun x => ?_, fun x y z h1 h2 => ?_, fun x y z h1 h2 => ?_⟩
  · have := Vs.lt_iff x x
    cases h : ltOf Vs.cmp x x with
    | false => rfl
    | true => exact absurd (this.mp h) (by omega)
  · rw [Vs.lt_iff] at h1 h2 ⊢; omega
  · have a := Vs.lt_iff x y; have b := Vs.lt_iff y z; have c := Vs.lt_iff x z
    rw [h1] at a; rw [h2] at b
    cases h : ltOf Vs.cmp x z with
    | false => rfl
    | true =>
      have a' : ¬ x.f0 < y.f0 := fun q => by simpa using a.mpr q
      have b' : ¬ y.f0 < z.f0 := fun q => by simpa using b.mpr q
      have := c.mp h
      omega
theorem Vs.told_eq {zs : List S70} {d : Array S70} (hn : (X.keys zs).Nodup) (hk : ∀ c ∈ zs, 0 ≤ c.f0 ∧ c.f0 < 16) (hp : PermIn 0 zs.length zs.toArray d) (hs : SortedIn (ltOf Vs.cmp) 0 zs.length d) : d.toList = X.risen zs := by
  obtain ⟨h1, _, h3⟩ := hp
  have hsz : d.size = zs.length := by simpa using h1
  have hperm : d.toList.Perm zs := by
    have e1 : d.extract 0 zs.length = d := by rw [← hsz]; simp
    have e2 : zs.toArray.extract 0 zs.length = zs.toArray := by simp
    rw [e1, e2] at h3
    exact h3
  have hkn : (X.keys d.toList).Nodup := (hperm.map (·.f0)).nodup_iff.mpr hn
  refine X.rise_unique ?_ (X.risen_rise zs) (fun c => by rw [X.mem_risen hn hk]; exact hperm.mem_iff)
  rw [List.pairwise_iff_getElem]
  intro i j hi hj hij
  have hi' : i < d.size := by simpa using hi
  have hj' : j < d.size := by simpa using hj
  have h := hs i j (Nat.zero_le _) hij (by omega)
  rw [getElem!_pos d j hj', getElem!_pos d i hi'] at h
  have hle : ¬ d[j].f0 < d[i].f0 := fun q => by have := (Vs.lt_iff _ _).mpr q; rw [h] at this; cases this
  have hne : d[i].f0 ≠ d[j].f0 := by
    have hp2 := List.pairwise_iff_getElem.mp hkn i j (by simpa [X.keys] using hi) (by simpa [X.keys] using hj) hij
    simpa [X.keys] using hp2
  simp only [Array.getElem_toList]
  omega
theorem Vs.flat_length (zs : List S70) : (Vs.flat zs).length = zs.length * 3 := by
  induction zs with
  | nil => rfl
  | cons x zs ih => simp only [Vs.flat, List.flatMap_cons, List.length_append, List.length_cons] at *; rw [ih]; simp [Vs.enc]; omega
theorem Vs.flat_cons (x : S70) (zs : List S70) : Vs.flat (x :: zs) = Vs.enc x ++ Vs.flat zs := rfl
theorem Vs.flat_drop : ∀ (zs : List S70) (j : Nat) (p : S70), zs[j]? = some p → ((Vs.flat zs).drop (j * 3)).take 3 = Vs.enc p
  | [], j, p, h => by simp at h
  | x :: zs, 0, p, h => by
    obtain rfl : x = p := by simpa using h
    rw [Vs.flat_cons]
    rfl
  | x :: zs, j + 1, p, h => by
    rw [Vs.flat_cons, show (j + 1) * 3 = 3 + j * 3 by omega, ← List.drop_drop, List.drop_left' (by rfl)]
    exact Vs.flat_drop zs j p (by simpa using h)
theorem Vs.flat_get (zs : List S70) (t : Nat) (h : t < zs.length * 3) : (Vs.flat zs)[t]? = (Vs.enc (zs[t / 3]'(by omega)))[t % 3]? := by
  have e := Vs.flat_drop zs (t / 3) _ (List.getElem?_eq_getElem (by omega))
  rw [← e, List.getElem?_take_of_lt (by omega), List.getElem?_drop]
  congr 1
  omega
theorem Vs.flatK_eq (d : Array S70) : (flatK Vs.enc 3 d).toList = Vs.flat d.toList := by
  apply List.ext_getElem?
  intro t
  by_cases h : t < d.size * 3
  · rw [Vs.flat_get d.toList t (by simpa using h)]
    have h3 : t % 3 = 0 ∨ t % 3 = 1 ∨ t % 3 = 2 := by omega
    have hd : t / 3 < d.size := by omega
    simp only [flatK, Array.getElem?_toList, Array.getElem_toList]
    rw [Array.getElem?_eq_getElem (by simpa using h)]
    simp only [Array.getElem_map, Array.getElem_range]
    rw [getElem!_pos d (t / 3) hd]
    rcases h3 with h3 | h3 | h3 <;> rw [h3] <;> simp [Vs.enc]
  · rw [List.getElem?_eq_none (by simp; omega), List.getElem?_eq_none (by rw [Vs.flat_length]; simp; omega)]
theorem Vs.holds {w : World} {g : Nat} {cur : Array Value} {e : TypeId} {zs : List S70} (hb : w.heap[g]? = some (.cells cur e (0, 0))) (ht : cur.toList.take (zs.length * 3) = Vs.flat zs) : HoldsK Vs.enc 3 w g 0 zs.toArray := by
  intro j hj
  have hj' : j < zs.length * 3 := by simpa using hj
  refine ⟨?_, by simp [World.frozen?, hb]⟩
  rw [Nat.zero_add, cell_of_row _ _ _ _ _ _ hb]
  have h1 : (cur.toList.take (zs.length * 3))[j]? = (Vs.flat zs)[j]? := by rw [ht]
  rw [List.getElem?_take_of_lt hj', Array.getElem?_toList] at h1
  rw [h1]
  have h2 : (flatK Vs.enc 3 zs.toArray)[j]! = (flatK Vs.enc 3 zs.toArray)[j]'hj := getElem!_pos _ j hj
  rw [h2]
  have h3 := Vs.flatK_eq zs.toArray
  rw [← h3, Array.getElem?_toList, Array.getElem?_eq_getElem hj]
  rfl
theorem Vs.heap_sorted {w : World} {g n : Nat} {os : Array Obj} {cur : Array Value} {e : TypeId} {fr : Nat × Nat} (d : Array Value) (hb : w.heap[g]? = some (.cells cur e fr)) :
    (grow (putRow id (Sort.ahead w n) g 0 d) os).heap[g]? = some (.cells (putCells id 0 d cur) e fr) := by
  have hg : g < w.heap.size := (Array.getElem?_eq_some_iff.1 hb).1
  rw [heap_grow_old _ _ (by simpa using hg)]
  simp [putRow, mapBlock, Sort.ahead, Array.getElem?_modify, hb, onCells]
theorem Vs.grown_sorted {w : World} {g n : Nat} {os : Array Obj} (d : Array Value) : w.grownBy (grow (putRow id (Sort.ahead w n) g 0 d) os) (some g) := by
  refine ⟨rfl, rfl, rfl, by simp, fun k hk hne => ?_⟩
  rw [heap_grow_old _ _ (by simpa using hk)]
  have : g ≠ k := fun e => hne (by rw [e])
  simp [putRow, mapBlock, Sort.ahead, Array.getElem?_modify, this]
theorem Vs.take_put (cur F : Array Value) (h : F.size ≤ cur.size) : (putCells id 0 F cur).toList.take F.size = F.toList := by
  apply List.ext_getElem?
  intro j
  by_cases hj : j < F.size
  · rw [List.getElem?_take_of_lt hj, Array.getElem?_toList]
    simp [putCells, hj, show j < cur.size by omega]
  · rw [List.getElem?_take_eq_none (by omega), List.getElem?_eq_none (by simp; omega)]
theorem Vs.owns_sorted {w : World} {base g cap n : Nat} {os : Array Obj} {cur : Array Value} {zs : List S70} {d : Array S70} (hl : d.size = zs.length) (hbase : base ≤ g) (hb : w.heap[g]? = some (.cells cur 70 (0, 0)))
    (h1 : zs.length ≤ cap) (h2 : cap ≤ maxLen) (h3 : cur.size = cap * 3) :
    (sortWorldK Vs.enc 3 w g 0 n d os).ownsRow base 70 3 (.slice (some ⟨g, 0, none⟩) zs.length cap) zs.length (Vs.flat d.toList) := by
  have hle : zs.length * 3 ≤ cap * 3 := Nat.mul_le_mul_right _ h1
  refine ⟨by rw [Vs.flat_length]; simp [hl], .inr ⟨g, cap, _, rfl, hbase, Vs.heap_sorted _ hb, h1, h2, by simp [putCells, h3], ?_⟩⟩
  rw [← Vs.flatK_eq, ← hl]
  have := Vs.take_put cur (flatK Vs.enc 3 d) (by rw [size_flatK]; omega)
  rwa [size_flatK] at this

set_option maxHeartbeats 1000000 in
theorem Vs.sort_calls (base g cap : Nat) (cur : Array Value) (zs : List S70) (w : World) (hb : w.heap[g]? = some (.cells cur 70 (0, 0))) (hbase : base ≤ g) (h1 : zs.length ≤ cap) (h2 : cap ≤ maxLen) (h3 : cur.size = cap * 3) (ht : cur.toList.take (zs.length * 3) = Vs.flat zs) (h12 : zs.length ≤ 12)
    (hn : (X.keys zs).Nodup) (hk : ∀ c ∈ zs, 0 ≤ c.f0 ∧ c.f0 < 16) :
    Calls Try.prog 111 #[.slice (some ⟨g, 0, none⟩) zs.length cap, .func (.func 98) #[] #[]] w fun e w' => e = .returned (.tuple #[]) ∧ w'.ownsRow base 70 3 (.slice (some ⟨g, 0, none⟩) zs.length cap) zs.length (Vs.flat (X.risen zs)) ∧ w.grownBy w' (some g) := by
  have eg : ∀ args w, (callFunc 98 args).run Try.prog w = .ok (.enter 98 args) w := enters_of Try.func98 (by kernel_rfl) rfl
  have hcon := AnyQ.slices_SortFunc_small_sorted Try.vsort 3 Try.isAgg70 Try.sizeOf70 Vs.enc (fun _ => rfl) (fun x v hv => by simp [Vs.enc] at hv; rcases hv with rfl | rfl | rfl <;> rfl) Vs.cmp 98 #[] Vs.swo g 0 cap zs.toArray w eg (Vs.cmp_lays g 0 zs.toArray.size w) (Vs.holds hb ht) (Array.getElem?_eq_some_iff.1 hb).1 (by simpa using h12) Vs.hlen
  rw [show zs.toArray.size = zs.length by simp] at hcon
  refine hcon.mono ?_
  rintro e w' ⟨he, d, n, os, hp, hs, rfl⟩
  have hd := Vs.told_eq hn hk hp hs
  have hl : d.size = zs.length := by simpa using hp.1
  exact ⟨he, by rw [← hd]; exact Vs.owns_sorted hl hbase hb h1 h2 h3, Vs.grown_sorted _⟩

/-- All functions, as deep as wished. -/
def Vs.all : Fence := { fn := fun _ => True }
theorem Vs.all_room (k : Nat) : Vs.all.room k := fun _ h => by cases h
set_option maxRecDepth 100000 in
set_option maxHeartbeats 1000000 in
theorem Vs.collect_in (F : Fence) (h136 : F.fn 110) (h149 : F.fn 118) (h138 : F.fn 112) (hro : F.round = none) (n : Nat) (hn : 4 ≤ n) (Bs : Nat) (sv : Value) (zs : List S70) (hlen : zs.length ≤ maxLen) (hbytes : zs.length * 24 ≤ 140737488351232) (w : World) (hBs : Bs < w.heap.size)
    (hc0 : w.cell? ⟨Bs, 0, none⟩ = some sv) (hI : Vs.Rows w.heap.size w sv zs) :
    CallsIn F n Try.prog 110 #[.func (.func 112) #[] #[.pointer (some ⟨Bs, 0, none⟩)]] w fun e W' => ∃ v, e = .returned v ∧ W'.ownsRow w.heap.size 70 3 v zs.length (Vs.flat zs) ∧ (v = .slice none 0 0 ↔ zs = []) ∧ Below w.heap.size w W' := by
  refine callsIn_of_wp Try.func110 rfl h136 ?_ hro
  simp only [Try.ntmps110, List.size_toArray, List.length_cons, List.length_nil, Nat.reduceAdd, Nat.reduceSub, Array.replicate_succ, Array.replicate_zero, List.push_toArray, List.append_toArray, List.nil_append, List.cons_append]
  gi_wp2_with (refine ⟨fun _ => by omega, ?_⟩; gi_at_call 118; refine (Vs.append_in F (n - 1) h149 h138 hro (by omega) Bs sv zs hlen hbytes _ hBs hc0 hI).mono ?_; rintro e W' ⟨v, rfl, hrow, hnil, hB⟩)
  go_ret
  exact ⟨v, rfl, hrow, hnil, hB⟩
theorem Vs.collect (Bs : Nat) (sv : Value) (zs : List S70) (hlen : zs.length ≤ maxLen) (hbytes : zs.length * 24 ≤ 140737488351232) (w : World) (hBs : Bs < w.heap.size)
    (hc0 : w.cell? ⟨Bs, 0, none⟩ = some sv) (hI : Vs.Rows w.heap.size w sv zs) :
    Calls Try.prog 110 #[.func (.func 112) #[] #[.pointer (some ⟨Bs, 0, none⟩)]] w fun e W' => ∃ v, e = .returned v ∧ W'.ownsRow w.heap.size 70 3 v zs.length (Vs.flat zs) ∧ (v = .slice none 0 0 ↔ zs = []) ∧ Below w.heap.size w W' :=
  (Vs.collect_in Vs.all trivial trivial trivial rfl 4 (Nat.le_refl _) Bs sv zs hlen hbytes w hBs hc0 hI).calls Vs.all_room
set_option maxRecDepth 100000 in
set_option maxHeartbeats 1000000 in
theorem Vs.sorted_calls (Bs : Nat) (sv : Value) (zs : List S70) (h12 : zs.length ≤ 12) (hn : (X.keys zs).Nodup) (hk : ∀ c ∈ zs, 0 ≤ c.f0 ∧ c.f0 < 16) (w : World) (hBs : Bs < w.heap.size)
    (hc0 : w.cell? ⟨Bs, 0, none⟩ = some sv) (hI : Vs.Rows w.heap.size w sv zs) :
    Calls Try.prog 96 #[.func (.func 112) #[] #[.pointer (some ⟨Bs, 0, none⟩)], .func (.func 98) #[] #[]] w fun e w' => ∃ v, e = .returned v ∧ w'.ownsRow w.heap.size 70 3 v zs.length (Vs.flat (X.risen zs)) ∧ Below w.heap.size w w' := by
  have hcol := Vs.collect Bs sv zs (by unfold maxLen; omega) (by omega) w hBs hc0 hI
  go_enter Try.func96, Try.ntmps96
  go_wp2_with (go_at_call 110; refine hcol.mono ?_; rintro e W ⟨v, rfl, hrow, hnil, hb⟩)
  rcases hrow.2 with ⟨rfl, hz⟩ | ⟨gb, cap, cur, rfl, hbase, hgb, r1, r2, r3, r4⟩
  · obtain rfl := hnil.mp rfl
    have hs := AnyF.slices_SortFunc_none Try.vsort none 0 (.func (.func 98) #[] #[]) W
    change Calls Try.prog 111 _ _ _ at hs
    go_wp2_with (go_at_call 111; refine hs.mono ?_; rintro e w' ⟨rfl, rfl⟩)
    go_ret
    exact ⟨_, rfl, hrow, hb⟩
  · have hs := Vs.sort_calls w.heap.size gb cap cur zs W hgb hbase r1 r2 r3 r4 h12 hn hk
    go_wp2_with (go_at_call 111; refine hs.mono ?_; rintro e w' ⟨rfl, hrow2, hg⟩)
    go_ret
    exact ⟨_, rfl, hrow2, hb.grown hg hb.size (fun j hj => by cases hj; exact hbase)⟩
end Go.Proofs.Ytdffhffhnjkcpaa
namespace Go.Proofs.Ytdffhffhnjkcpaa.X
open Go.RowKit Go.Shelf Go.Proofs.YtdffhffhnjkcpaaW.PrintWords Go.Proofs.YtdffhffhnjkcpaaW.PrintLast Go.Proofs.YtdffhffhnjkcpaaW.PrintMore
set_option linter.unusedVariables false
theorem rows_of_R {w0 W : World} {ok : Nat → Prop} {v : Value} {l : List S70} (h : Kd.R k70 70 W w0.heap.size ok v l) : Vs.Rows W.heap.size W v l := by
  obtain ⟨inner, ho⟩ := Kd.R_own h
  rcases ho.2 with ⟨rfl, hz⟩ | ⟨g, cap, cur, rfl, hbase, hgb, r⟩
  · exact .inl ⟨rfl, List.length_eq_zero_iff.mp hz⟩
  · refine .inr ⟨g, cap, rfl, (Array.getElem?_eq_some_iff.1 hgb).1, fun j hj => ?_⟩
    obtain ⟨ad, e, h0, h1, h2⟩ := at_T70 (Kd.R_reads' h).2.2 (j : Int) (by omega) (by omega)
    cases e
    simp only [add_plain, Int.toNat_natCast] at h0 h1 h2
    have hz : l[j]?.getD z70 = rd_T70 l (j : Int) := by simp [rd_T70, List.getD_eq_getElem?_getD]
    rw [hz]
    exact ⟨h0, h1, h2⟩
theorem R_of_rows {W : World} {base : Nat} {v : Value} {l : List S70} {n : Nat} (hn : n = l.length) (h : W.ownsRow base 70 3 v n (Vs.flat l)) : Kd.R k70 70 W base (fun _ => True) v l := by
  subst hn
  refine ⟨fun _ _ => trivial, Vs.flat l, h, Vs.flat_length l, fun j p hj => ?_⟩
  show k70.M _ _ _ p (((Vs.flat l).drop (j * 3)).take 3)
  rw [Vs.flat_drop l j p hj]
  exact k70_mkM _ _ _ p
set_option maxRecDepth 100000 in
set_option maxHeartbeats 1000000 in
theorem told_calls (w0 W : World) (G : Nat) (a b v : Value) (l : List S70) (h12 : l.length ≤ 12) (hn : (keys l).Nodup) (hk : ∀ c ∈ l, 0 ≤ c.f0 ∧ c.f0 < 16) (hL : W.heap[G]? = some (.cells #[a, b, v] 91 (0, 0))) (hb0 : Below w0.heap.size w0 W) (ho0 : Kd.R k70 70 W w0.heap.size (fun _ => True) v l) :
    Calls Try.prog 87 #[.pointer (some ⟨G, 0, none⟩)] W fun e w' => ∃ v', e = .returned v' ∧ Kd.R k70 70 w' w0.heap.size (fun _ => True) v' (risen l) ∧ Below w0.heap.size w0 w' := by
  have hc2 : W.cell? ⟨G, 2, none⟩ = some v := (blk_cell hL 2).trans rfl
  have hI := rows_of_R ho0
  obtain ⟨A, c, rfl⟩ := Kd.R_slice ho0
  have hb1 : Below W.heap.size W (W.alloc (.cells #[.slice A l.length c] 57)) := below_alloc (Below.refl _ _) _
  have hS := Vs.sorted_calls W.heap.size (.slice A l.length c) l h12 hn hk (W.alloc (.cells #[.slice A l.length c] 57)) (by simp) (cell_one_new W _ _ 0 _ rfl) ((by
    have := hI.below hb1
    rcases this with h | ⟨g, cap, e, hg, hh⟩
    · exact .inl h
    · exact .inr ⟨g, cap, e, by simp; omega, hh⟩))
  have hv := (Vs.values_in Vs.all 1 trivial rfl A l.length c W).calls Vs.all_room
  have hrl := len_risen hn hk
  have hsz := below_size hb0
  clear hI hL ho0 hk hn
  go_enter Try.func87, Try.ntmps87
  go_wp2_with (first | (go_at_call 97; refine hv.mono ?_; rintro e w' ⟨rfl, rfl⟩) | (go_at_call 96; refine hS.mono ?_; rintro e w' ⟨v', rfl, hrow, hB⟩))
  go_ret
  refine ⟨_, rfl, R_of_rows hrl.symm (own_weaken hrow (by simp; omega)), hb0.trans ((hb1.mono hsz).trans (hB.mono (by simp; omega)))⟩
end Go.Proofs.Ytdffhffhnjkcpaa.X
