/- The walk of Merge behind its tests: what two lists make together, as a plain function. -/
import Derived.Test.YtdffhffhnjkcpaaE66
import Derived.Test.YtdffhffhnjkcpaaE81
import Derived.Test.YtdffhffhnjkcpaaS8
import Derived.Test.YtdffhffhnjkcpaaS1
import Derived.Test.YtdffhffhnjkcpaaXf65
import Derived.Laws.Rows
namespace Go.Proofs.Ytdffhffhnjkcpaa.X
open Go.RowKit Go.Shelf Go.Proofs.YtdffhffhnjkcpaaW.PrintWords Go.Proofs.YtdffhffhnjkcpaaW.PrintLast Go.Proofs.YtdffhffhnjkcpaaW.PrintMore
set_option linter.unusedVariables false
set_option linter.unusedSimpArgs false

def sumK (l : List S70) (y : Nat) : Int := (l.map fun c => if c.f0 = (y : Int) then c.f1 else 0).sum
def sumL (l : List S70) : List Int := (List.range 16).map (sumK l)
def sumV (l : List S70) : List Value := (sumL l).map (Value.int .i64)
theorem rd70m (l : List S70) (i : Nat) (h : i < l.length) : rd_T70 l (i : Int) = l[i] := by
  simp [rd_T70, List.getD_eq_getElem?_getD, List.getElem?_eq_getElem h]
theorem sumL_len (l : List S70) : (sumL l).length = 16 := by simp [sumL]
theorem sumV_length (l : List S70) : (sumV l).length = 16 := by simp [sumV, sumL]
theorem sumV_at (l : List S70) (j : Nat) (h : j < 16) : (sumV l).toArray[j]? = some (.int .i64 (sumK l j)) := by
  simp [sumV, sumL, List.getElem?_range h]
theorem sumK_snoc (l : List S70) (c : S70) (y : Nat) : sumK (l ++ [c]) y = sumK l y + if c.f0 = (y : Int) then c.f1 else 0 := by
  simp [sumK, List.sum_append]
theorem sumK_bound {l : List S70} (h : ∀ c ∈ l, 1 ≤ c.f1 ∧ c.f1 ≤ 40) (y : Nat) : 0 ≤ sumK l y ∧ sumK l y ≤ 40 * l.length := by
  induction l with
  | nil => simp [sumK]
  | cons c l ih =>
    have := h c (by simp)
    have := ih (fun d hd => h d (List.mem_cons_of_mem _ hd))
    have e : sumK (c :: l) y = (if c.f0 = (y : Int) then c.f1 else 0) + sumK l y := by simp [sumK]
    rw [e]
    simp only [List.length_cons]
    split <;> omega
theorem sumV_set (l : List S70) (c : S70) (h0 : 0 ≤ c.f0) (h1 : c.f0 < 16) : (sumV l).toArray.setIfInBounds c.f0.toNat (.int .i64 (sumK l c.f0.toNat + c.f1)) = (sumV (l ++ [c])).toArray := by
  apply Array.ext_getElem?
  intro i
  by_cases hi : i < 16
  · rw [sumV_at _ _ hi, sumK_snoc, Array.getElem?_setIfInBounds]
    by_cases e : c.f0.toNat = i
    · subst e
      have : c.f0 = (c.f0.toNat : Int) := by omega
      rw [if_pos rfl, if_pos (by simpa [sumV_length] using hi), if_pos this]
    · rw [if_neg e, sumV_at _ _ hi, if_neg (by omega), Int.add_zero]
  · have h1 : ∀ l' : List S70, (sumV l').toArray[i]? = none := fun l' => by
      rw [Array.getElem?_eq_none_iff]
      have := sumV_length l'
      simp only [List.size_toArray]
      omega
    rw [h1, Array.getElem?_setIfInBounds, h1]
    have hs := sumV_length l
    split
    · rw [if_neg (by simp only [List.size_toArray]; omega)]
    · rfl
theorem info77m : (Try.prog.info? 77).map (·.size) = some 16 := by kernel_rfl
theorem run_index_sum (l : List S70) (i : Int) (h0 : 0 ≤ i) (h1 : i < 16) (W : World) :
    (Instr.index 77 (.agg (sumV l).toArray) (.int .i64 i)).run Try.prog W = .ok (.int .i64 (sumK l i.toNat)) W := by
  have hn : 0 ≤ i ∧ i < ((16 : Nat) : Int) := ⟨h0, by omega⟩
  have hc := sumV_at l i.toNat (by omega)
  have hs : (sumV l)[i.toNat]? = some (.int .i64 (sumK l i.toNat)) := by simpa using hc
  simp [Instr.index, run_underlying Try.underlying77, asIntOf, hn, hs, go_sem, h0, h1]
def lessU (k : Int) (l : List S70) : Int := rd ((sumL l).mergeSort fun x y => decide (x ≤ y)) (15 - k)
def mergeTo (k : Int) (l : List S70) (m : Nat) : List S70 := (List.range m).filterMap fun y : Nat => if lessU k l < sumK l y then some ⟨(y : Int), sumK l y - lessU k l, 0⟩ else none
def mergeU (k : Int) (l : List S70) : List S70 := mergeTo k l 16
theorem mergeTo_succ (k : Int) (l : List S70) (m : Nat) : mergeTo k l (m + 1) = mergeTo k l m ++ if lessU k l < sumK l m then [⟨(m : Int), sumK l m - lessU k l, 0⟩] else [] := by
  unfold mergeTo
  rw [List.range_succ, List.filterMap_append]
  congr 1
  simp only [List.filterMap_cons, List.filterMap_nil]
  split <;> simp_all
theorem mergeTo_len (k : Int) (l : List S70) (m : Nat) : (mergeTo k l m).length ≤ m := by
  unfold mergeTo
  have := List.length_filterMap_le (fun y : Nat => if lessU k l < sumK l y then some (⟨(y : Int), sumK l y - lessU k l, 0⟩ : S70) else none) (List.range m)
  simpa using this
theorem lessU_mem {k : Int} (h1 : 1 ≤ k) (h8 : k ≤ 8) (l : List S70) : lessU k l ∈ sumL l := by
  unfold lessU rd
  have hl : ((sumL l).mergeSort fun x y => decide (x ≤ y)).length = 16 := by rw [List.length_mergeSort, sumL_len]
  have hi : (15 - k).toNat < ((sumL l).mergeSort fun x y => decide (x ≤ y)).length := by omega
  rw [List.getD_eq_getElem?_getD, List.getElem?_eq_getElem hi]
  exact (List.mergeSort_perm _ _).mem_iff.mp (List.getElem_mem hi)
theorem lessU_bound {k : Int} (h1 : 1 ≤ k) (h8 : k ≤ 8) {l : List S70} (h : ∀ c ∈ l, 1 ≤ c.f1 ∧ c.f1 ≤ 40) : 0 ≤ lessU k l ∧ lessU k l ≤ 40 * l.length := by
  obtain ⟨y, _, e⟩ := List.mem_map.mp (lessU_mem h1 h8 l)
  rw [← e]
  exact sumK_bound h y

/-- A list of at most k counters, as Merge takes it. -/
structure ListOk (k : Int) (l : List S70) : Prop where
  len : (l.length : Int) ≤ k
  key : ∀ c ∈ l, 0 ≤ c.f0 ∧ c.f0 < 16
  num : ∀ c ∈ l, 1 ≤ c.f1 ∧ c.f1 ≤ 40

theorem slice_event {P : Program} {ops : Array Oper} {rest : List Oper} {o : Oper} {a : Act} {Q : Exit → Act → World → Prop} {W : World} (hgd : o.guard = none) {N : Tmp} (_hd : o.dst = some N) {cs : Array Value} {t : TypeId} {n : Nat}
    (hrun : (execOp a.eval o).run P W = .ok (.value (.slice (some ⟨W.heap.size, 0, none⟩) n n)) (W.alloc (.cells cs t (0, 0))))
    (h : ∀ g, g = W.heap.size → ∀ w1, w1.heap[g]? = some (.cells cs t (0, 0)) → Below W.heap.size W w1 → wpList P ops Q rest (a.put o.dst (.slice (some ⟨g, 0, none⟩) n n)) w1) : wpList P ops Q (o :: rest) a W :=
  Kd.event_run hgd hrun (h _ rfl _ (blk_new W _) (below_alloc (Below.refl _ _) _))
theorem store_step9_ {P : Program} {ops : Array Oper} {Q : Exit → Act → World → Prop} {o : Oper} {a : Act} {Kc : Act → World → Prop} {W w1 : World} {N : Option Tmp} (hw : Region.wanted o (yielded ops a.tmps) = true) (hrun : (execOp a.eval o).run P W = .ok .skip w1) (h : Kc (a.put o.dst undef) w1) : if Region.wanted o (yielded ops a.tmps) = true then Oper.wp P o a W Kc Q else Kc (a.put N undef) W := by
  rw [if_pos hw]
  unfold Oper.wp
  rw [hrun]
  exact h
def plus9.T : Bool × List (List Nat × List Nat) := (true, [([], []), ([0], [0]), ([1], [1]), ([2], [2]), ([], []), ([4], [4]), ([3, 5], [3, 5]), ([1, 0, 1, 2, 3, 4, 5, 6], [1]), ([7, 6, 0, 1, 2, 3, 4, 5, 6], [6, 7])])
def plus9.B : List Nat := [0, 1, 3, 7, 0, 16, 63, 127, 255]
theorem plus9.tab40 : rtab .any (opsOf Try.f40 7) = plus9.T := by kernel_rfl
theorem plus9.tab45 : rtab .any (opsOf Try.f45 8) = plus9.T := by kernel_rfl
theorem plus9.bits : waitsOk plus9.T.2 plus9.B = true := by kernel_rfl

theorem i64_at_sum {n : Nat} (a b : Int) (h0 : 0 ≤ a) (h1 : a ≤ 40 * (n : Int)) (h2 : 1 ≤ b) (h3 : b ≤ 40) (h4 : n ≤ 16) : wrap64 (a + b) = a + b := by
  unfold wrap64
  omega
theorem i64_sub2 {n : Nat} (a b : Int) (h0 : 0 ≤ a) (h1 : a < b) (h2 : b ≤ 40 * (n : Int)) (h4 : n ≤ 16) : wrap64 (b - a) = b - a := by
  unfold wrap64
  omega
set_option maxHeartbeats 8000000 in
set_option maxRecDepth 100000 in
theorem merge_calls (a0 : Int) (A1 A2 : Option Addr) (c1 c2 : Nat) (l1 l2 : List S70) (w : World) (hk1 : 1 ≤ a0) (hk8 : a0 ≤ 8) (h1 : ListOk a0 l1) (h2 : ListOk a0 l2) (hr1 : Kd.C k70 w A1 l1.length l1) (hr2 : Kd.C k70 w A2 l2.length l2) (hc1 : l1.length ≤ c1) (hc2 : l2.length ≤ c2)
    (hL1 : ∀ W, Below w.heap.size w W → Calls Try.prog 65 #[.int .i64 a0, .slice A1 l1.length c1] W fun e w' => e = .returned (.bool true) ∧ Below W.heap.size W w')
    (hL2 : ∀ W, Below w.heap.size w W → Calls Try.prog 65 #[.int .i64 a0, .slice A2 l2.length c2] W fun e w' => e = .returned (.bool true) ∧ Below W.heap.size W w') :
    Calls Try.prog 40 #[.int .i64 a0, .slice A1 l1.length c1, .slice A2 l2.length c2] w fun e w' => ∃ v0_ : Value, e = .returned (.tuple #[v0_, .int .i64 0]) ∧ Kd.R k70 70 w' w.heap.size (fun _ => True) v0_ (mergeU a0 (l1 ++ l2)) ∧ Below w.heap.size w w' := by
  have hl1 : l1.length ≤ 8 := by have := h1.len; omega
  have hl2 : l2.length ≤ 8 := by have := h2.len; omega
  have hkey : ∀ c ∈ l1 ++ l2, 0 ≤ c.f0 ∧ c.f0 < 16 := fun c hc => (List.mem_append.mp hc).elim (h1.key c) (h2.key c)
  have hnum : ∀ c ∈ l1 ++ l2, 1 ≤ c.f1 ∧ c.f1 ≤ 40 := fun c hc => (List.mem_append.mp hc).elim (h1.num c) (h2.num c)
  have HLB := Aside0.mk (lessU_bound hk1 hk8 hnum)
  have HK := Aside0.mk hkey
  have HN := Aside0.mk hnum
  have HR1 := Aside0.mk hr1
  have HR2 := Aside0.mk hr2
  have HL1 := Lib.hid hL1
  have HL2 := Lib.hid hL2
  have hz : (sumV []).toArray = #[.int .i64 0, .int .i64 0, .int .i64 0, .int .i64 0, .int .i64 0, .int .i64 0, .int .i64 0, .int .i64 0, .int .i64 0, .int .i64 0, .int .i64 0, .int .i64 0, .int .i64 0, .int .i64 0, .int .i64 0, .int .i64 0] := by rfl
  have HZ := Aside0.mk hz
  have HCC := Aside0.mk (fun (W : World) (b : Nat) (hb : Below w.heap.size w W) (hblk : W.heap[b]? = some (.cells #[.slice A1 l1.length c1, .slice A2 l2.length c2] 57 (0, 0))) => concat_calls W W b A1 A2 c1 c2 l1 l2 (by omega) (by omega) (Kd.C_below hr1 hb) (Kd.C_below hr2 hb) (Below.refl _ _) hblk)
  have hlen : (l1 ++ l2).length ≤ 16 := by rw [List.length_append]; omega
  clear hz hL1 hL2 hr1 hr2 hkey hnum h1 h2
  generalize l1 ++ l2 = L at *
  go_enter Try.func40, Try.ntmps40
  go_wp2_with (first | (go_at_call 65; (with_reducible refine (HL1.out _ (Below.refl _ _)).mono ?_); rintro e wa ⟨rfl, hba⟩; have HBa := Aside0.mk hba; clear hba) | (go_at_call 65; (with_reducible refine (HL2.out _ HBa.out).mono ?_); rintro e wb ⟨rfl, hbb⟩; have HBb := Aside0.mk (below_step HBa.out hbb); clear hbb) | ((with_reducible refine gate_dst (N := 8) rfl ?_); refine box_event ?hg8 (N := 8) ?hd8 (cs := #[.int .i64 0, .int .i64 0, .int .i64 0, .int .i64 0, .int .i64 0, .int .i64 0, .int .i64 0, .int .i64 0, .int .i64 0, .int .i64 0, .int .i64 0, .int .i64 0, .int .i64 0, .int .i64 0, .int .i64 0, .int .i64 0]) (t := 77) ?hr8 ?_; (case hd8 => rfl); (case hg8 => rfl); (case hr8 => first | (go_simp; done) | (go_simp; rfl)); intro g8 hg8 w1 hbox hb; rw [← HZ.out] at hbox; have HS1 := Aside0.mk hbox; have HB1 := Aside0.mk (show Below w.heap.size w w1 from below_step HBb.out hb); have HG8 := Aside0.mk (show w.heap.size ≤ g8 from by rw [hg8]; exact below_size HBb.out); clear hbox hb hg8) | ((with_reducible refine gate_dst (N := 28) rfl ?_); refine slice_event ?hg28 (N := 28) ?hd28 (cs := #[.slice A1 l1.length c1, .slice A2 l2.length c2]) (t := 57) (n := 2) ?hr28 ?_; (case hd28 => rfl); (case hg28 => rfl); (case hr28 => first | (go_simp; done) | (go_simp; rfl)); intro gc hgc w2 hblk hb; have HC2 := Aside0.mk hblk; have HS2 := Aside0.mk (blk_below HS1.out hb); have HB2 := Aside0.mk (below_step HB1.out hb); clear hblk hb hgc) | (go_at_call 66; (with_reducible refine (HCC.out _ _ HB2.out HC2.out).mono ?_); rintro e w3 ⟨v3, rfl, ho3, hg3⟩; have HO3 := Aside0.mk (Kd.R_lower ho3 (below_size HB2.out)); have HB3 := Aside0.mk (below_step HB2.out hg3); have HS3 := Aside0.mk (blk_below HS2.out hg3); obtain ⟨A3, c3, rfl⟩ := Kd.R_slice ho3; clear ho3 hg3))
  clear HL1 HL2 HCC HS1 HS2 HC2 HB1 HB2
  go_loopw [31] (fun v31 wr => ∃ j : Nat, j ≤ L.length ∧ v31 = .int .i64 j ∧ Aside0 (wr.heap[g8]? = some (.cells (sumV (L.take j)).toArray 77 (0, 0))) ∧ Aside0 (Kd.R k70 70 wr w.heap.size (fun _ => True) (.slice A3 L.length c3) L) ∧ Aside0 (Below w.heap.size w wr)) (fun v31 _ => L.length - (intOf v31).toNat)
  case atStart => exact ⟨0, Nat.zero_le _, rfl, HS3, HO3, HB3⟩
  case round =>
    clear HS3 HO3 HB3
    obtain ⟨j, hj, rfl, HS, HO, HB⟩ := hrel
    by_cases hlt : j < L.length
    · have hkd : decide ((j : Int) < (L.length : Int)) = true := decide_eq_true (by omega)
      have hkd2 : decide (j < L.length) = true := decide_eq_true hlt
      obtain ⟨ad, e, hx0, hx1, hx2⟩ := at_T70 (Kd.R_reads' HO.out).2.2 (j : Int) (by omega) (by omega)
      subst e
      rw [rd70m L j hlt] at hx0 hx1 hx2
      rw [Int.toNat_natCast] at hx0 hx1 hx2
      have hkq := HK.out L[j] (List.getElem_mem hlt)
      have hnq := HN.out L[j] (List.getElem_mem hlt)
      have hts : Aside0 (L.take (j + 1) = L.take j ++ [L[j]]) := ⟨List.take_succ_eq_append_getElem hlt⟩
      have hsb := sumK_bound (l := L.take j) (fun c hc => HN.out c (List.mem_of_mem_take hc)) L[j].f0.toNat
      have hlt2 : (L.take j).length ≤ 16 := by rw [List.length_take]; omega
      have hset := Aside0.mk (sumV_set (L.take j) L[j] hkq.1 hkq.2)
      have hsat := Aside0.mk (sumV_at (L.take j) L[j].f0.toNat (by omega))
      generalize L[j] = q at *
      obtain ⟨hk0, hk1⟩ := hkq
      obtain ⟨hn0, hn1⟩ := hnq
      generalize hsk : sumK (L.take j) q.f0.toNat = sk at *
      clear hsk
      obtain ⟨hs0, hs1⟩ := hsb
      go_wp2_with (first | ((with_reducible refine gate_dst (N := 10) rfl ?_); refine box_event ?hg10 (N := 10) ?hd10 (cs := #[.int .i64 0, .int .i64 0, .int .i64 0]) (t := 70) ?hr10 ?_; (case hd10 => rfl); (case hg10 => rfl); (case hr10 => first | (go_simp; done) | (go_simp; rfl)); intro gb hgb w4 hbox hb; have HBX := Aside0.mk hbox; have HS4 := Aside0.mk (blk_below HS.out hb); have HO4' := Aside0.mk (Kd.R_elderB HO.out gb (Nat.le_of_eq hgb.symm)); have HO4 := Aside0.mk (Kd.R_below HO4'.out hb); have HB4 := Aside0.mk (below_step HB.out hb); have HGB := Aside0.mk (show w.heap.size ≤ gb from by rw [hgb]; exact below_size HB.out); have HGN := Aside0.mk (show g8 ≠ gb from by rw [hgb]; have := blk_lt HS.out; omega); have hz0 : w4.cell? ⟨gb, 0, none⟩ = some (.int .i64 0) := (blk_cell hbox 0).trans rfl; have hz1 : w4.cell? ⟨gb, 1, none⟩ = some (.int .i64 0) := (blk_cell hbox 1).trans rfl; have hz2 : w4.cell? ⟨gb, 2, none⟩ = some (.int .i64 0) := (blk_cell hbox 2).trans rfl; have hf0 := blk_frozen hbox 0; have hf1 := blk_frozen hbox 1; have hf2 := blk_frozen hbox 2; clear hbox hb hgb) | ((with_reducible refine gate_store (t := 70) (p := 10) rfl ?_); refine store_event (t := 70) (p := 10) (v := ?vo) (w1 := (((w4.setCell ⟨gb, 0, none⟩ (.int .i64 q.f0)).setCell ⟨gb, 1, none⟩ (.int .i64 q.f1)).setCell ⟨gb, 2, none⟩ (.int .i64 q.f2))) ?hg ?ho ?hn ?hr ?_; (case ho => rfl); (case hg => rfl); (case hn => rfl); (case hr => first | (go_simp; done) | (go_simp; rfl)); intro w5 hw; have HX5 := Aside0.mk (show w5.heap[gb]? = some (.cells #[.int .i64 q.f0, .int .i64 q.f1, .int .i64 q.f2] 70 (0, 0)) from by rw [hw]; exact blk_put (blk_put (blk_put HBX.out 0 _ rfl) 1 _ rfl) 2 _ rfl); have HB5 := Aside0.mk (show Below w.heap.size w w5 from by rw [hw]; exact below_set (below_set (below_set HB4.out HGB.out) HGB.out) HGB.out); have HS5 := Aside0.mk (show w5.heap[g8]? = some (.cells (sumV (L.take j)).toArray 77 (0, 0)) from by rw [hw]; exact blk_far (blk_far (blk_far HS4.out HGN.out _) HGN.out _) HGN.out _); have HO5 := Aside0.mk (show Kd.R k70 70 w5 w.heap.size (fun _ => True) (.slice (some ad) L.length c3) L from by rw [hw]; exact Kd.R_mono (Kd.R_far (p := ⟨gb, 2, none⟩) (Kd.R_far (p := ⟨gb, 1, none⟩) (Kd.R_far (p := ⟨gb, 0, none⟩) HO4.out (fun _ hk => hk.2) _) (fun _ hk => hk.2) _) (fun _ hk => hk.2) _) (fun _ _ => trivial)); clear hw))
      have HX6 := Aside0.mk (blk_drew HX5.out)
      have HS6 := Aside0.mk (blk_drew HS5.out)
      have HB6 := Aside0.mk (below_drew1 HB5.out)
      have HO6 := Aside0.mk (Kd.R_drew HO5.out)
      have hp1 : (0 ≤ q.f0) = True := eq_true (by omega)
      have hp2 : (q.f0 < 16) = True := eq_true (by omega)
      refine start_ (n := 9) (S := fun w' => w'.cell? ⟨gb, 0, none⟩ = some (.int .i64 q.f0) ∧ w'.cell? ⟨gb, 1, none⟩ = some (.int .i64 q.f1) ∧ w'.cell? ⟨g8, q.f0.toNat, none⟩ = some (.int .i64 sk)) (ds := [8]) #[false, false, false, false, false, false, false, false, false] (by kernel_rfl) rfl rfl ⟨(blk_cell HX6.out 0).trans rfl, (blk_cell HX6.out 1).trans rfl, (blk_cell HS6.out q.f0.toNat).trans hsat.out⟩ (fun hHeld => ?_); refine with_tabW plus9.tab40 plus9.bits (fun HT_ HW_ => ?_)
      clear HX5 HS5 HB5 HO5
      generalize w5.drew = wd at HX6 HS6 HB6 HO6 hHeld ⊢
      refine pure_ (i := 0) (N := some 35) (v := ?_) (a' := ?_) #[true, false, false, false, false, false, false, false, false] rfl rfl (any_of HT_.out (by kernel_rfl)) (fun _ _ _ h => h) (Or.inl ⟨by rfl, ?_⟩) ?_ ?_
      rotate_left
      · intro w'
        go_simp
        with_reducible rfl
      rotate_left
      · simp only [Act.put, List.setIfInBounds_toArray, List.set_cons_zero, List.set_cons_succ, i64_w, i32_w]
        rfl
      refine take_ (i := 1) (N := some 36) (v := ?_) (a' := ?_) #[true, true, false, false, false, false, false, false, false] rfl rfl (take_ofW HT_.out HW_.out (by kernel_rfl)) (fun _ _ _ h => h) (Or.inl ⟨by rfl, ?_⟩) hHeld ?_ ?_
      rotate_left
      · rintro w' ⟨s0, s1, s2⟩
        go_simp
        with_reducible rfl
      rotate_left
      · simp only [Act.put, List.setIfInBounds_toArray, List.set_cons_zero, List.set_cons_succ, i64_w, i32_w]
        rfl
      refine pure_ (i := 2) (N := some 37) (v := ?_) (a' := ?_) #[true, true, true, false, false, false, false, false, false] rfl rfl (any_of HT_.out (by kernel_rfl)) (fun _ _ _ h => h) (Or.inl ⟨by rfl, ?_⟩) ?_ ?_
      rotate_left
      · intro w'
        go_simp
        with_reducible rfl
      rotate_left
      · simp only [Act.put, List.setIfInBounds_toArray, List.set_cons_zero, List.set_cons_succ, i64_w, i32_w]
        rfl
      refine take_ (i := 3) (N := some 38) (v := ?_) (a' := ?_) #[true, true, true, true, false, false, false, false, false] rfl rfl (take_ofW HT_.out HW_.out (by kernel_rfl)) (fun _ _ _ h => h) (Or.inl ⟨by rfl, ?_⟩) hHeld ?_ ?_
      rotate_left
      · rintro w' ⟨s0, s1, s2⟩
        go_simp
        with_reducible rfl
      rotate_left
      · simp only [Act.put, List.setIfInBounds_toArray, List.set_cons_zero, List.set_cons_succ, i64_w, i32_w]
        rfl
      refine pure_ (i := 4) (N := some 39) (v := ?_) (a' := ?_) #[true, true, true, true, true, false, false, false, false] rfl rfl (any_of HT_.out (by kernel_rfl)) (fun _ _ _ h => h) (Or.inl ⟨by rfl, ?_⟩) ?_ ?_
      rotate_left
      · intro w'
        go_simp
        with_reducible rfl
      rotate_left
      · simp only [Act.put, List.setIfInBounds_toArray, List.set_cons_zero, List.set_cons_succ, i64_w, i32_w]
        rfl
      refine take_ (i := 5) (N := some 40) (v := ?_) (a' := ?_) #[true, true, true, true, true, true, false, false, false] rfl rfl (take_ofW HT_.out HW_.out (by kernel_rfl)) (fun _ _ _ h => h) (Or.inl ⟨by rfl, ?_⟩) hHeld ?_ ?_
      rotate_left
      · rintro w' ⟨s0, s1, s2⟩
        go_simp
        with_reducible rfl
      rotate_left
      · simp only [Act.put, List.setIfInBounds_toArray, List.set_cons_zero, List.set_cons_succ, i64_w, i32_w]
        rfl
      refine pure_ (i := 6) (N := some 41) (v := ?_) (a' := ?_) #[true, true, true, true, true, true, true, false, false] rfl rfl (any_of HT_.out (by kernel_rfl)) (fun _ _ _ h => h) (Or.inl ⟨by rfl, ?_⟩) ?_ ?_
      rotate_left
      · intro w'
        go_simp
        with_reducible rfl
      rotate_left
      · simp only [Act.put, List.setIfInBounds_toArray, List.set_cons_zero, List.set_cons_succ, i64_w, i32_w]
        rfl
      refine pure_ (i := 7) (N := some 42) (v := ?_) (a' := ?_) #[true, true, true, true, true, true, true, true, false] rfl rfl (any_of HT_.out (by kernel_rfl)) (fun _ _ _ h => h) (Or.inl ⟨by rfl, ?_⟩) ?_ ?_
      rotate_left
      · intro w'
        go_simp
        with_reducible rfl
      rotate_left
      · simp only [Act.put, List.setIfInBounds_toArray, List.set_cons_zero, List.set_cons_succ, i64_w, i32_w]
        rfl
      refine last_ (i := 8) (N := none) #[true, true, true, true, true, true, true, true, true] rfl rfl (one_of HT_.out (by kernel_rfl)) (by decide) (fun K hK => ?_)
      have y0 : wd.cell? ⟨g8, q.f0.toNat, none⟩ = some (.int .i64 sk) := (blk_cell HS6.out q.f0.toNat).trans hsat.out
      have f0 : wd.frozen? ⟨g8, q.f0.toNat, none⟩ = false := blk_frozen HS6.out _
      refine store_step9_ (w1 := wd.setCell ⟨g8, q.f0.toNat, none⟩ (.int .i64 (sk + q.f1))) (by rfl) (by first | (go_simp; done) | (go_simp; rw [i64_at_sum sk q.f1 hs0 hs1 hn0 hn1 hlt2])) ?_
      refine hK.out _ _ ?_
      clear hK K
      refine done_ (done_of HT_.out (by kernel_rfl)) ?_
      go_wp2
      go_roundw
      case rel => exact ⟨j + 1, by omega, by go_num, ⟨by rw [hts.out, ← hset.out]; exact blk_set HS6.out _ _⟩, ⟨Kd.R_set HO6.out HS6.out (fun q hq => by have h : q ∈ [70] := hq; rw [List.mem_singleton] at h; omega) _ _⟩, ⟨below_set HB6.out HG8.out⟩⟩
      case measure => simp [intOf]; omega
    · have hkd : decide ((j : Int) < (L.length : Int)) = false := decide_eq_false (by omega)
      have hkd2 : decide (j < L.length) = false := decide_eq_false hlt
      obtain rfl : j = L.length := by omega
      rw [List.take_length] at HS
      have hcat : ∀ i, i < 16 → wr.cell? ⟨g8, i, none⟩ = some (.int .i64 (sumK L i)) := fun i hi => (blk_cell HS.out i).trans (sumV_at L i hi)
      have hI : Vi.Ints (wr.alloc (.cells #[.slice (some ⟨g8, 0, none⟩) 16 16] 23)).heap.size (wr.alloc (.cells #[.slice (some ⟨g8, 0, none⟩) 16 16] 23)) (.slice (some ⟨g8, 0, none⟩) 16 16) (sumL L) := by
        refine .inr ⟨⟨g8, 0, none⟩, 16, by rw [sumL_len], ?_, fun i hi => ?_⟩
        · have := blk_lt HS.out
          simp; omega
        · rw [sumL_len] at hi
          rw [add_plain]
          refine pw_cell_below (below_alloc (Below.refl _ _) _) ?_
          rw [hcat i hi]
          simp [sumL, List.getElem?_map, List.getElem?_range hi]
      have hS := Vi.sorted_calls wr.heap.size (.slice (some ⟨g8, 0, none⟩) 16 16) (sumL L) (by intro e; have := sumL_len L; rw [e] at this; cases this) (by rw [sumL_len]; omega) (wr.alloc (.cells #[.slice (some ⟨g8, 0, none⟩) 16 16] 23)) (by simp) (cell_one_new wr _ _ 0 _ rfl) hI
      have hv := (Vi.values_in Vi.all 1 trivial rfl (some ⟨g8, 0, none⟩) 16 16 wr).calls Vi.all_room
      have hsl : ((sumL L).mergeSort fun x y => decide (x ≤ y)).length = 16 := by rw [List.length_mergeSort, sumL_len]
      have HSL := Aside0.mk hsl
      have HVV := Lib.hid hv
      have HSS := Lib.hid hS
      have hlb := HLB.out
      have HLU := Aside0.mk (rfl : lessU a0 L = rd ((sumL L).mergeSort fun x y => decide (x ≤ y)) (15 - a0))
      clear hcat hI hS hv hlt hkd hkd2 hj hsl
      go_wp2_with (first | (go_at_call 68; refine (HVV.out).mono ?_; rintro e w' ⟨rfl, rfl⟩) | (go_at_call 67; refine (HSS.out).mono ?_; rintro e w5 ⟨v5, rfl, hrow, hB⟩; have hb5 : Below wr.heap.size wr w5 := (below_alloc (Below.refl _ _) _ : Below wr.heap.size wr (wr.alloc (.cells #[.slice (some ⟨g8, 0, none⟩) 16 16] 23))).trans (hB.mono (by simp)); have HR5 := Aside0.mk (show Kd.R (Kd.int .i64) 3 w5 w.heap.size (fun _ => True) v5 ((sumL L).mergeSort fun x y => decide (x ≤ y)) from Kd.R_of_own (by have h9 := own_weaken hrow (base' := w.heap.size) (by have := below_size HB.out; simp; omega); rw [sumL_len] at h9; rw [HSL.out]; exact h9) (fun _ _ => trivial)); have HS5 := Aside0.mk (blk_below HS.out hb5); have HB5 := Aside0.mk (below_step HB.out hb5); obtain ⟨A5, c5, rfl⟩ := Kd.R_slice HR5.out; obtain ⟨ad5, e5, hx5⟩ := Kd.at_int (Kd.R_reads' HR5.out).2.2 (15 - a0) (by omega) (by rw [HSL.out]; omega); subst e5; have hx6 : w5.cell? (ad5.add (15 - a0).toNat) = some (.int .i64 (lessU a0 L)) := hx5; clear hx5; rw [HSL.out]; clear hrow hB hb5) | ((with_reducible refine gate_dst (N := 52) rfl ?_); refine wpList_load_row rfl 77 (.tmp 8) rfl g8 rfl 77 (sumV L).toArray (0, 0) _ HS5.out Try.underlying77 rfl info77m ?_))
      go_loopw [13, 53] (fun v13 v53 wr => ∃ i : Nat, ∃ A c, v13 = .slice A (mergeTo a0 L i).length c ∧ i ≤ 16 ∧ v53 = .int .i64 i ∧ Aside0 (Kd.R k70 70 wr w.heap.size (fun _ => True) v13 (mergeTo a0 L i)) ∧ Aside0 (Below w.heap.size w wr)) (fun _ v53 _ => 16 - (intOf v53).toNat)
      case atStart => exact ⟨0, none, 0, rfl, by omega, rfl, ⟨show Kd.R k70 70 w5 w.heap.size (fun _ => True) (.slice none 0 0) [] from Kd.R_nil _ _ _ _ _⟩, HB5⟩
      case round =>
        clear HB HS HS5 HO HR5 HB5 hx6
        obtain ⟨i, A6, c6, rfl, hi, rfl, HO6, HB6⟩ := hrel
        by_cases hlt : i < 16
        · have hc := Aside0.mk (sumK_bound HN.out i)
          have hidx := run_index_sum L (i : Int) (by omega) (by omega)
          rw [Int.toNat_natCast] at hidx
          have hsu := Aside0.mk (mergeTo_succ a0 L i)
          have hln := Aside0.mk (mergeTo_len a0 L i)
          have hid : decide ((i : Int) < 16) = true := decide_eq_true (by omega)
          by_cases hp : lessU a0 L < sumK L i
          · have hgd : decide (lessU a0 L < sumK L i) = true := decide_eq_true hp
            have hsu2 := Aside0.mk (show mergeTo a0 L (i + 1) = mergeTo a0 L i ++ [⟨(i : Int), sumK L i - lessU a0 L, 0⟩] by rw [hsu.out, if_pos hp])
            have hwr := i64_sub2 (lessU a0 L) (sumK L i) hlb.1 hp hc.out.2 hlen
            generalize hcc : sumK L i = cc at *
            generalize hle : lessU a0 L = le at *
            clear hsu hcc hle
            generalize mergeTo a0 L i = out at *
            go_wp2_with (first | ((with_reducible refine gate_builtin (b := .append) (xs := #[.tmp 60, .tmp 66]) rfl ?_); at_builtin; refine Kd.R_append k70 (w0 := w) w.heap.size rfl (.tmp 60) (.tmp 66) 57 70 (.agg #[(.int .i64 0), (.int .i64 0), (.int .i64 0)]) 24 rfl Try.underlying57 info70 rfl (by decide) (by omega) (.slice A6 out.length c6) out (⟨(i : Int), cc - le, 0⟩ : S70) [.int .i64 (i : Int), .int .i64 (cc - le), .int .i64 0] (fun _ => True) (fun _ => False) rfl rfl ?aP (fun _ hk => hk.elim) ?aF ?aO ?aB ?aS ?aL ?_; (case aP => exact k70_mkM _ _ _ (⟨(i : Int), cc - le, 0⟩ : S70)); (case aB => exact (by repeat (first | (with_reducible first | exact HB6.out | apply below_alloc | apply pw_below_drewN | apply below_drew1) | exact HB6.out))); (case aF => exact (fun _ _ => trivial)); (case aO => exact (by (with_reducible repeat (first | apply Kd.R_alloc | apply Kd.R_drewN | apply Kd.R_drew)); exact HO6.out)); (case aS => exact (below_size (by repeat (first | (with_reducible first | exact HB6.out | apply below_alloc | apply pw_below_drewN | apply below_drew1) | exact HB6.out)))); (case aL => have := hln.out; omega); intro v7 w7 ho hb hg hat; rw [← hsu2.out] at ho; obtain ⟨A7, c7, rfl⟩ := Kd.R_slice ho; have HO7 := Aside0.mk ho; have HB7 := Aside0.mk hb; clear ho hb hg hat))
            go_roundw
            case rel => exact ⟨i + 1, A7, c7, rfl, by omega, by go_num, HO7, HB7⟩
            case measure => simp [intOf]; omega
          · have hgd : decide (lessU a0 L < sumK L i) = false := decide_eq_false hp
            have hsu2 := Aside0.mk (show mergeTo a0 L (i + 1) = mergeTo a0 L i by rw [hsu.out, if_neg hp, List.append_nil])
            generalize hcc : sumK L i = cc at *
            generalize hle : lessU a0 L = le at *
            clear hsu hcc hle
            go_wp2
            go_roundw
            case rel => exact ⟨i + 1, A6, c6, by rw [hsu2.out], by omega, by go_num, ⟨by rw [hsu2.out]; exact HO6.out⟩, HB6⟩
            case measure => simp [intOf]; omega
        · have hid : decide ((i : Int) < 16) = false := decide_eq_false (by omega)
          obtain rfl : i = 16 := by omega
          clear hlt hi
          go_wp2
          go_ret2
          exact ⟨_, rfl, HO6.out, HB6.out⟩

/-! ### What isList tells -/
def goodC (l : List S70) (j : Nat) : Bool := keyB (rd_T70 l j).f0 && decide (1 ≤ (rd_T70 l j).f1) && decide ((rd_T70 l j).f1 ≤ 40) && decide ((rd_T70 l j).f2 = 0) && (decide (j = 0) || decide ((rd_T70 l ((j : Int) - 1)).f0 < (rd_T70 l j).f0))
def listB (k : Int) (l : List S70) : Bool := kB k && decide ((l.length : Int) ≤ k) && (List.range l.length).all (goodC l)
theorem isList_l0 (l : List S70) (hl : l.length ≤ 8) : ∀ n i : Nat, l.length - i = n → i ≤ l.length → ∃ k, sketch_isList.l0 k l l (l.length : Int) (i : Int) = some ((List.range' i n).all (goodC l)) := by
  intro n
  induction n with
  | zero =>
    intro i hn hi
    refine ⟨1, ?_⟩
    have : i = l.length := by omega
    subst this
    simp [sketch_isList.l0]
  | succ n ih =>
    intro i hn hi
    obtain ⟨k, hk⟩ := ih (i + 1) (by omega) (by omega)
    refine ⟨k + 1, ?_⟩
    have e1 : wrap64 ((i : Int) + 1) = ((i + 1 : Nat) : Int) := by unfold wrap64; omega
    have h1 : (i : Int) < (l.length : Int) := by omega
    have h0 : (0 : Int) ≤ (i : Int) := by omega
    rw [sketch_isList.l0, if_pos h1, if_pos h0, if_pos h1, isKey_f, Option.bind_some, List.range'_succ, List.all_cons, e1, hk]
    unfold goodC
    by_cases a1 : keyB (rd_T70 l i).f0 = true
    · rw [if_pos a1, a1]
      by_cases a2 : (rd_T70 l i).f1 < 1
      · rw [if_pos a2]; simp; omega
      · rw [if_neg a2]
        by_cases a3 : (rd_T70 l i).f1 > 40
        · rw [if_pos a3]; simp; omega
        · rw [if_neg a3]
          by_cases a4 : (rd_T70 l i).f2 = 0
          · rw [if_pos a4]
            have b2 : 1 ≤ (rd_T70 l i).f1 := by omega
            have b3 : (rd_T70 l i).f1 ≤ 40 := by omega
            by_cases a5 : i = 0
            · subst a5
              rw [if_neg (by simp)]
              have a4' : (rd_T70 l 0).f2 = 0 := a4
              have b2' : 1 ≤ (rd_T70 l 0).f1 := b2
              have b3' : (rd_T70 l 0).f1 ≤ 40 := b3
              simp [b2', b3', a4']
            · have e2 : wrap64 ((i : Int) - 1) = (i : Int) - 1 := by unfold wrap64; omega
              rw [e2, if_pos (by omega : (i : Int) > 0), if_pos (by omega : (0 : Int) ≤ (i : Int) - 1), if_pos (by omega : (i : Int) - 1 < (l.length : Int))]
              by_cases a6 : (rd_T70 l ((i : Int) - 1)).f0 ≥ (rd_T70 l i).f0
              · rw [if_pos a6]
                have : ¬ (rd_T70 l ((i : Int) - 1)).f0 < (rd_T70 l i).f0 := by omega
                simp [this, a5]
              · rw [if_neg a6]
                have : (rd_T70 l ((i : Int) - 1)).f0 < (rd_T70 l i).f0 := by omega
                simp [this, a5, b2, b3, a4]
          · rw [if_neg a4]; simp [a4]
    · rw [if_neg a1, Bool.eq_false_iff.mpr a1]; simp
theorem isList_f (k : Int) (l : List S70) : ∃ kk, sketch_isList.f kk k l = some (listB k l) := by
  unfold sketch_isList.f listB
  rw [isK_f]
  by_cases a1 : kB k = true
  · by_cases a2 : (l.length : Int) > k
    · refine ⟨1, ?_⟩
      have : ¬ (l.length : Int) ≤ k := by omega
      simp [a1, a2, this, sketch_isList.j0]
    · have hk : 1 ≤ k ∧ k ≤ 8 := by simpa [kB] using a1
      obtain ⟨n, hn⟩ := isList_l0 l (by omega) l.length 0 (by omega) (by omega)
      refine ⟨n + 1, ?_⟩
      have : (l.length : Int) ≤ k := by omega
      have e : decide ((l.length : Int) > k) = false := decide_eq_false a2
      rw [Option.bind_some, if_pos a1, e, sketch_isList.j0, if_neg (by decide)]
      rw [← List.range_eq_range'] at hn
      simp only [a1, this, decide_true, Bool.true_and]
      exact hn
  · refine ⟨1, ?_⟩
    have := Bool.eq_false_iff.mpr a1
    simp [this, sketch_isList.j0]
theorem isList_calls (a0 : Int) (A1 : Option Addr) (c1 : Nat) (l1 : List S70) (w : World) (hr1 : Kd.C k70 w A1 l1.length l1) (hc1 : l1.length ≤ c1) :
    Calls Try.prog 65 #[.int .i64 a0, .slice A1 l1.length c1] w fun e w' => e = .returned (.bool (listB a0 l1)) ∧ Below w.heap.size w w' := by
  obtain ⟨kk, h⟩ := isList_f a0 l1
  exact sketch_isList.calls kk a0 A1 c1 l1 _ w hr1 hc1 h
theorem listOk_of {k : Int} {l : List S70} (h : listB k l = true) : (1 ≤ k ∧ k ≤ 8) ∧ ListOk k l ∧ (∀ c ∈ l, c.f2 = 0) ∧ (∀ j : Nat, ∀ h : j + 1 < l.length, l[j].f0 < l[j + 1].f0) := by
  simp only [listB, Bool.and_eq_true, decide_eq_true_eq, List.all_eq_true, List.mem_range] at h
  obtain ⟨⟨h1, h2⟩, h3⟩ := h
  have hk : 1 ≤ k ∧ k ≤ 8 := by simpa [kB] using h1
  have h4 : ∀ j : Nat, ∀ hj : j < l.length, (0 ≤ l[j].f0 ∧ l[j].f0 < 16) ∧ 1 ≤ l[j].f1 ∧ l[j].f1 ≤ 40 ∧ l[j].f2 = 0 := by
    intro j hj
    have := h3 j hj
    simp only [goodC, rd70m l j hj, Bool.and_eq_true, decide_eq_true_eq, keyB] at this
    obtain ⟨⟨⟨⟨a, b⟩, c⟩, d⟩, _⟩ := this
    exact ⟨by omega, b, c, d⟩
  refine ⟨hk, ⟨h2, fun c hc => ?_, fun c hc => ?_⟩, fun c hc => ?_, fun j hj => ?_⟩
  · obtain ⟨j, hj, rfl⟩ := List.mem_iff_getElem.mp hc
    exact (h4 j hj).1
  · obtain ⟨j, hj, rfl⟩ := List.mem_iff_getElem.mp hc
    exact ⟨(h4 j hj).2.1, (h4 j hj).2.2.1⟩
  · obtain ⟨j, hj, rfl⟩ := List.mem_iff_getElem.mp hc
    exact (h4 j hj).2.2.2
  · have := h3 (j + 1) hj
    have e : ((j + 1 : Nat) : Int) - 1 = (j : Int) := by omega
    simp only [goodC, e, rd70m l (j + 1) hj, rd70m l j (by omega), Bool.and_eq_true, Bool.or_eq_true, decide_eq_true_eq] at this
    exact this.2.resolve_left (by omega)
def xMerge.f (a0 : Int) (l1 l2 : List S70) : Option (List S70 × Int) := some (if listB a0 l1 = true ∧ listB a0 l2 = true then (mergeU a0 (l1 ++ l2), 0) else ([], 2))
set_option maxHeartbeats 4000000 in
set_option maxRecDepth 100000 in
theorem xMerge.calls (a0 : Int) (A1 : Option Addr) (c1 : Nat) (l1 : List S70) (A2 : Option Addr) (c2 : Nat) (l2 : List S70) (r1 : List S70) (r2 : Int) (w : World) (hr1 : Kd.C k70 w A1 l1.length l1) (hc1 : l1.length ≤ c1) (hr2 : Kd.C k70 w A2 l2.length l2) (hc2 : l2.length ≤ c2) (h : xMerge.f a0 l1 l2 = some (r1, r2)) :
    Calls Try.prog 40 #[.int .i64 a0, .slice A1 l1.length c1, .slice A2 l2.length c2] w fun e w' => ∃ v0_ : Value, e = .returned (.tuple #[v0_, .int .i64 r2]) ∧ Kd.R k70 70 w' w.heap.size (fun _ => True) v0_ r1 ∧ Below w.heap.size w w' := by
  have hL1 := fun W hb => isList_calls a0 A1 c1 l1 W (Kd.C_below hr1 hb) hc1
  have hL2 := fun W hb => isList_calls a0 A2 c2 l2 W (Kd.C_below hr2 hb) hc2
  have H := Option.some.inj h
  clear h
  by_cases hy : listB a0 l1 = true
  · rw [hy] at hL1
    by_cases hz : listB a0 l2 = true
    · rw [if_pos ⟨hy, hz⟩] at H
      obtain ⟨rfl, rfl⟩ := Prod.mk.inj H
      rw [hz] at hL2
      exact merge_calls a0 A1 A2 c1 c2 l1 l2 w (listOk_of hy).1.1 (listOk_of hy).1.2 (listOk_of hy).2.1 (listOk_of hz).2.1 hr1 hr2 hc1 hc2 hL1 hL2
    · rw [if_neg (fun h => hz h.2)] at H
      obtain ⟨rfl, rfl⟩ := Prod.mk.inj H
      rw [Bool.eq_false_iff.mpr hz] at hL2
      have HL1 := Lib.hid hL1
      have HL2 := Lib.hid hL2
      clear hL1 hL2 hy hz H hr1 hr2
      go_enter Try.func40, Try.ntmps40
      go_wp2_with (first | (go_at_call 65; (with_reducible refine (HL1.out _ (Below.refl _ _)).mono ?_); rintro e wa ⟨rfl, hba⟩; have HBa := Aside0.mk hba; clear hba) | (go_at_call 65; (with_reducible refine (HL2.out _ HBa.out).mono ?_); rintro e wb ⟨rfl, hbb⟩; have HBb := Aside0.mk (below_step HBa.out hbb); clear hbb))
      go_ret2
      exact ⟨_, rfl, Kd.R_nil _ _ _ _ _, HBb.out⟩
  · rw [if_neg (fun h => hy h.1)] at H
    obtain ⟨rfl, rfl⟩ := Prod.mk.inj H
    rw [Bool.eq_false_iff.mpr hy] at hL1
    have HL1 := Lib.hid hL1
    clear hL1 hL2 hy H hr1 hr2
    go_enter Try.func40, Try.ntmps40
    go_wp2_with (first | (go_at_call 65; (with_reducible refine (HL1.out _ (Below.refl _ _)).mono ?_); rintro e wa ⟨rfl, hba⟩; have HBa := Aside0.mk hba; clear hba))
    go_ret2
    exact ⟨_, rfl, Kd.R_nil _ _ _ _ _, HBa.out⟩
end Go.Proofs.Ytdffhffhnjkcpaa.X
