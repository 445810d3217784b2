/- The walk of falling: a new slice that holds the numbers in the order of the sort by 'down', at twelve numbers or fewer. -/
import Derived.Test.YtkieehjpnjplmaaDoorE75
import Derived.Test.YtkieehjpnjplmaaDoorL2
import Derived.Lib.SlKeysI
namespace Go.Proofs.YtkieehjpnjplmaaDoor
open Go Go.Proofs Go.RowKit Go.Shelf Go.Sort Go.Lib
attribute [local go_sem] Oper.semAt_some

/-- What 'down' tells of two numbers. -/
def Vi.down (x y : Int) : Int := wrap64 (y - x)
set_option maxHeartbeats 1000000 in
theorem Vi.down_calls (x y : Int) (W : World) : Calls Tryd.prog 43 #[.int .i64 x, .int .i64 y] W fun e w' => e = .returned (.int .i64 (Vi.down x y)) ∧ ∃ q, w' = W.drewN q := by
  go_enter Tryd.func43, Tryd.ntmps43
  go_wp2
  go_ret
  exact ⟨rfl, 0, rfl⟩
theorem Vi.down_reads (blk off size : Nat) (w : World) : CmpReads Tryd.prog 43 #[] (Value.int .i64) Vi.down blk off size w :=
  fun _ _ _ _ x y => Vi.down_calls x y _
theorem Vi.hlen (n : Nat) (W : World) (h : n ≤ 12) : Calls Tryd.prog 39 #[.int .u64 n] W fun e w' => (∃ l : Int, e = .returned (.int .i64 l)) ∧ w' = W :=
  (Any.bits_Len Tryd.vbitsLen n W (by omega) (by omega)).mono fun _ _ ⟨he, hw⟩ => ⟨⟨_, he⟩, hw⟩
theorem Vi.sort_calls (blk off cap : Nat) (d : Array Int) (w : World) (hH : Holds (Value.int .i64) w blk off d) (h12 : d.size ≤ 12) :
    Calls Tryd.prog 72 #[.slice (some ⟨blk, off, none⟩) d.size cap, .func (.func 43) #[] #[]] w fun e w' => e = .returned (.tuple #[]) ∧ ∃ n, w' = (putRow (Value.int .i64) w blk off (Sort.insertionSort (ltOf Vi.down) d 0 d.size)).drewN n := by
  have eg : ∀ args w, (callFunc 43 args).run Tryd.prog w = .ok (.enter 43 args) w := enters_of Tryd.func43 (by kernel_rfl) rfl
  exact Any.slices_SortFunc_small Tryd.vsort (Value.int .i64) (fun _ => rfl) Vi.down 43 #[] blk off cap d w eg (Vi.down_reads blk off d.size w) hH h12 Vi.hlen
theorem Vi.drewN_grow (w : World) (g n : Nat) (d : Array Int) : (putRow (Value.int .i64) w g 0 d).drewN n = grow (putRow (Value.int .i64) (Sort.ahead w n) g 0 d) #[] := by
  simp [grow, putRow, mapBlock, Sort.ahead, World.drewN]

/-- All functions, as deep as wished. -/
def Vi.all : Fence := { fn := fun _ => True }
theorem Vi.all_room (k : Nat) : Vi.all.room k := fun _ h => by cases h
set_option maxRecDepth 100000 in
set_option maxHeartbeats 1000000 in
theorem Vi.collect_in (F : Fence) (h71 : F.fn 71) (h75 : F.fn 75) (h73 : F.fn 73) (hro : F.round = none) (n : Nat) (hn : 4 ≤ n) (Bs : Nat) (sv : Value) (zs : List Int) (hlen : zs.length ≤ maxLen) (hbytes : zs.length * 8 ≤ 140737488351232) (w : World) (hBs : Bs < w.heap.size)
    (hc0 : w.cell? ⟨Bs, 0, none⟩ = some sv) (hI : Vi.Ints w.heap.size w sv zs) :
    CallsIn F n Tryd.prog 71 #[.func (.func 73) #[] #[.pointer (some ⟨Bs, 0, none⟩)]] w fun e W' => ∃ v, e = .returned v ∧ W'.ownsRow w.heap.size 3 1 v zs.length (zs.map (Value.int .i64)) ∧ (v = .slice none 0 0 ↔ zs = []) ∧ Below w.heap.size w W' := by
  refine callsIn_of_wp Tryd.func71 rfl h71 ?_ hro
  simp only [Tryd.ntmps71, List.size_toArray, List.length_cons, List.length_nil, Nat.reduceAdd, Nat.reduceSub, Array.replicate_succ, Array.replicate_zero, List.push_toArray, List.append_toArray, List.nil_append, List.cons_append]
  gi_wp2_with (refine ⟨fun _ => by omega, ?_⟩; gi_at_call 75; refine (Vi.append_in F (n - 1) h75 h73 hro (by omega) Bs sv zs hlen hbytes _ hBs hc0 hI).mono ?_; rintro e W' ⟨v, rfl, hrow, hnil, hB⟩)
  go_ret
  exact ⟨v, rfl, hrow, hnil, hB⟩
theorem Vi.collect (Bs : Nat) (sv : Value) (zs : List Int) (hlen : zs.length ≤ maxLen) (hbytes : zs.length * 8 ≤ 140737488351232) (w : World) (hBs : Bs < w.heap.size)
    (hc0 : w.cell? ⟨Bs, 0, none⟩ = some sv) (hI : Vi.Ints w.heap.size w sv zs) :
    Calls Tryd.prog 71 #[.func (.func 73) #[] #[.pointer (some ⟨Bs, 0, none⟩)]] w fun e W' => ∃ v, e = .returned v ∧ W'.ownsRow w.heap.size 3 1 v zs.length (zs.map (Value.int .i64)) ∧ (v = .slice none 0 0 ↔ zs = []) ∧ Below w.heap.size w W' :=
  (Vi.collect_in Vi.all trivial trivial trivial rfl 4 (Nat.le_refl _) Bs sv zs hlen hbytes w hBs hc0 hI).calls Vi.all_room
/-- The numbers as the sort lays them. -/
def Vi.fall (zs : List Int) : List Int := (Sort.insertionSort (ltOf Vi.down) zs.toArray 0 zs.length).toList
set_option maxRecDepth 100000 in
set_option maxHeartbeats 1000000 in
theorem Vi.sorted_calls (Bs : Nat) (sv : Value) (zs : List Int) (h0 : zs ≠ []) (h12 : zs.length ≤ 12) (hfl : (Vi.fall zs).length = zs.length) (w : World) (hBs : Bs < w.heap.size)
    (hc0 : w.cell? ⟨Bs, 0, none⟩ = some sv) (hI : Vi.Ints w.heap.size w sv zs) :
    Calls Tryd.prog 61 #[.func (.func 73) #[] #[.pointer (some ⟨Bs, 0, none⟩)], .func (.func 43) #[] #[]] w fun e W' => ∃ v, e = .returned v ∧ W'.ownsRow w.heap.size 3 1 v zs.length ((Vi.fall zs).map (Value.int .i64)) ∧ Below w.heap.size w W' := by
  have hcol := Vi.collect Bs sv zs (by unfold maxLen; omega) (by omega) w hBs hc0 hI
  go_enter Tryd.func61, Tryd.ntmps61
  go_wp2_with (go_at_call 71; refine hcol.mono ?_; rintro e W ⟨v, rfl, hrow, hnil, hb⟩)
  rcases hrow.2 with ⟨rfl, hz⟩ | ⟨gb, cap, cur, rfl, hbase, hgb, r1, r2, r3, r4⟩
  · exact absurd (hnil.mp rfl) h0
  · have hH : Holds (Value.int .i64) W gb 0 zs.toArray := holds_of_block_i hgb (by simpa using r4)
    have hs := Vi.sort_calls gb 0 cap zs.toArray W hH (by simpa using h12)
    rw [show zs.toArray.size = zs.length from by simp] at hs
    go_wp2_with (go_at_call 72; refine hs.mono ?_; rintro e w' ⟨rfl, nn, rfl⟩)
    rw [Vi.drewN_grow]
    go_ret
    have e1 : (Sort.insertionSort (ltOf Vi.down) zs.toArray 0 zs.length) = (Vi.fall zs).toArray := by simp [Vi.fall]
    rw [e1]
    exact ⟨_, rfl, ownsRow_sorted_i hfl hbase hgb r1 r2 r3, hb.grown (grownBy_sorted_i _) hb.size (fun j hj => by cases hj; exact hbase)⟩
end Go.Proofs.YtkieehjpnjplmaaDoor
