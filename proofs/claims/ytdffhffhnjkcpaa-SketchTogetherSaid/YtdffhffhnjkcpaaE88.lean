/- The walk of lessen: every number less by 1, and those that are 0 then go. -/
import Derived.Test.YtdffhffhnjkcpaaE94
namespace Go.Proofs.Ytdffhffhnjkcpaa.X
open Go.RowKit Go.Shelf Go.Proofs.YtdffhffhnjkcpaaW.PrintWords Go.Proofs.YtdffhffhnjkcpaaW.PrintLast Go.Proofs.YtdffhffhnjkcpaaW.PrintMore
set_option linter.unusedVariables false
set_option linter.unusedSimpArgs false

theorem grown_refl (W : World) (row : Option Nat) : W.grownBy W row := ⟨rfl, rfl, rfl, Nat.le_refl _, fun _ _ _ => rfl⟩
theorem grown_far {W wr : World} {row : Option Nat} (h : W.grownBy wr row) {g : Nat} (hg : W.heap.size ≤ g) (j : Nat) (v : Value) : W.grownBy (wr.setCell ⟨g, j, none⟩ v) row :=
  ⟨h.os, h.tape, h.output, by simpa using h.size, fun k hk hr => (Below.heap_setCell wr ⟨g, j, none⟩ v k (by show k ≠ g; omega)).trans (h.block k hk hr)⟩
theorem grown_own {W wr : World} {g : Nat} (h : W.grownBy wr (some g)) (j : Nat) (v : Value) : W.grownBy (wr.setCell ⟨g, j, none⟩ v) (some g) :=
  ⟨h.os, h.tape, h.output, by simpa using h.size, fun k hk hr => (Below.heap_setCell wr ⟨g, j, none⟩ v k (by show k ≠ g; rintro rfl; exact hr rfl)).trans (h.block k hk hr)⟩
theorem grown_below {W wr w' : World} {row : Option Nat} (h : W.grownBy wr row) (hb : Below wr.heap.size wr w') : W.grownBy w' row :=
  ⟨hb.os.trans h.os, hb.tape.trans h.tape, hb.output.trans h.output, Nat.le_trans h.size hb.size, fun k hk hr => (hb.block k (Nat.lt_of_lt_of_le hk h.size)).trans (h.block k hk hr)⟩
theorem grown_of_below {W w' : World} (row : Option Nat) (hb : Below W.heap.size W w') : W.grownBy w' row := grown_below (grown_refl W row) hb
theorem grown_trans {a b c : World} {row : Option Nat} (h : a.grownBy b row) (k : b.grownBy c row) : a.grownBy c row :=
  ⟨k.os.trans h.os, k.tape.trans h.tape, k.output.trans h.output, Nat.le_trans h.size k.size, fun i hi hr => (k.block i (Nat.lt_of_lt_of_le hi h.size) hr).trans (h.block i hi hr)⟩

/-- Cells behind the first i elements are written: the row of the first i is as it was. -/
theorem R_cut_seg {α : Type} {d : Kd α} {e base g n cap : Nat} {ok : Nat → Prop} {W : World} {xs : List α} (h : d.R e W base ok (.slice (some ⟨g, 0, none⟩) n cap) xs) (i : Nat) (hi : i ≤ n) {seg : List Value} (hs : seg.length = (n - i) * d.sz) :
    d.R e (W.setCells g (i * d.sz) seg) base ok (.slice (some ⟨g, 0, none⟩) i cap) (xs.take i) ∧ W.grownBy (W.setCells g (i * d.sz) seg) (some g) := by
  obtain ⟨hn, hnc, _⟩ := Kd.R_reads' h
  obtain ⟨hok, inner, ho, hr⟩ := Kd.R_take (m := i) h (by omega)
  have hmul : (n - i) * d.sz = n * d.sz - i * d.sz := Nat.sub_mul _ _ _
  have hle : i * d.sz ≤ n * d.sz := Nat.mul_le_mul_right _ hi
  have hle2 : n * d.sz ≤ cap * d.sz := Nat.mul_le_mul_right _ hnc
  have hil : (xs.take i).length = i := by rw [List.length_take]; omega
  obtain ⟨s1, s2, s3, s4⟩ := setCells_same g seg (i * d.sz) W
  have hfar : ∀ k, k ≠ g → (W.setCells g (i * d.sz) seg).heap[k]? = W.heap[k]? := fun k hk => setCells_far seg _ k hk
  refine ⟨⟨hok, inner, ?_, ?_⟩, ⟨s1, s2, s3, by rw [s4]; exact Nat.le_refl _, fun k _ hk => hfar k (fun he => hk (by rw [he]))⟩⟩
  · obtain ⟨ho1, ho2⟩ := ho
    refine ⟨ho1, ?_⟩
    rcases ho2 with ⟨hv, _⟩ | ⟨g', cap', cur, hv, hb, hh, hnc', hcm, hcs, ht⟩
    · cases hv
    injection hv with ha _ hc
    injection ha with ha
    injection ha with hg
    subst hg; subst hc
    have hfit : i * d.sz + seg.length ≤ cur.size := by omega
    obtain ⟨cur', h3, h4, h5⟩ := setCells_row seg (i * d.sz) W cur hh hfit
    refine .inr ⟨g, cap, cur', by rw [hil], hb, h3, hnc', hcm, by rw [h4, hcs], ?_⟩
    rw [← ht]
    apply List.ext_getElem?
    intro q
    rw [List.getElem?_take, List.getElem?_take, hil]
    by_cases hq : q < i * d.sz
    · rw [if_pos hq, if_pos hq, h5, seg_get cur.toList seg (i * d.sz) (by rw [Array.length_toList]; omega) q, if_pos hq]
    · rw [if_neg hq, if_neg hq]
  · refine hr.imp_ (fun p c hp => d.M_move (fun k hk => hfar k (fun he => hk.2 ?_)) hp)
    rw [he]; rfl

theorem zero3 (m : Nat) : (Builtin.zeroCells (Value.agg #[.int .i64 0, .int .i64 0, .int .i64 0]).cells m).toList.length = m * 3 ∧ ∀ v ∈ (Builtin.zeroCells (Value.agg #[.int .i64 0, .int .i64 0, .int .i64 0]).cells m).toList, v.oneCell' = true := by
  constructor
  · simp [Builtin.zeroCells, Value.cells]
  · intro v hv
    simp only [Builtin.zeroCells, Value.cells] at hv
    simp at hv
    obtain ⟨a, ha, rfl⟩ := hv
    have h3 : a % 3 = 0 ∨ a % 3 = 1 ∨ a % 3 = 2 := by omega
    rcases h3 with h | h | h <;> simp [h, Value.oneCell']
theorem run_clear3 {P : Program} (w : World) (t e ty : TypeId) (ht : P.underlying t = some (.slice e)) (hv : ∀ w, (zeroValue e).run P w = .ok (.agg #[.int .i64 0, .int .i64 0, .int .i64 0]) w) (b o n c : Nat) (hn : 0 < n)
    (hc : ∀ j, j < n * 3 → (w.cell? ⟨b, o + j, none⟩).isSome = true) (hf : ∀ j, j < n * 3 → w.frozen? ⟨b, o + j, none⟩ = false) :
    (Builtin.clear_ #[t] ty #[.slice (some ⟨b, o, none⟩) n c]).run P w = .ok (.tuple #[]) (w.setCells b o (Builtin.zeroCells (Value.agg #[.int .i64 0, .int .i64 0, .int .i64 0]).cells n).toList) := by
  obtain ⟨hl, h1⟩ := zero3 n
  have hst := run_storeCells_cells (P := P) b o (Builtin.zeroCells (Value.agg #[.int .i64 0, .int .i64 0, .int .i64 0]).cells n).toList 0 w (by rw [hl]; simpa using hc) (by rw [hl]; simpa using hf) h1
  simp only [Nat.add_zero] at hst
  obtain ⟨m, rfl⟩ : ∃ m, n = m + 1 := ⟨n - 1, by omega⟩
  simp [Builtin.clear_, run_underlying ht, hv, hst]

set_option maxHeartbeats 1000000 in
theorem at89_calls (c : S70) (W : World) :
    Calls Try.prog 89 #[.agg #[.int .i64 c.f0, .int .i64 c.f1, .int .i64 c.f2]] W fun e w' => e = .returned (.bool (!nz c)) ∧ Below W.heap.size W w' := by
  go_enter Try.func89, Try.ntmps89
  go_wp2
  go_ret
  exact ⟨by simp [nz], below_alloc (Below.refl _ _) _⟩

/-- What the search for what stays has done. -/
structure DInv (l : List S70) (i j : Nat) (xs : List S70) : Prop where
  len : xs.length = l.length
  lt : i < j
  le : j ≤ l.length
  done : xs.take i = (l.take j).filter nz
  rest : xs.drop j = l.drop j
theorem take_succ_get (l : List S70) (j : Nat) (h : j < l.length) : l.take (j + 1) = l.take j ++ [l[j]] := by
  rw [List.take_succ_eq_append_getElem h]
theorem DInv.keep {l xs : List S70} {i j : Nat} (h : DInv l i j xs) (hj : j < l.length) (hp : nz l[j] = true) : DInv l (i + 1) (j + 1) (xs.set i l[j]) := by
  have hi : i < xs.length := by have := h.len; have := h.lt; omega
  refine ⟨by rw [List.length_set, h.len], by have := h.lt; omega, by omega, ?_, ?_⟩
  · rw [take_succ_get l j hj, List.filter_append, ← h.done]
    rw [take_succ_get (xs.set i l[j]) i (by rw [List.length_set]; exact hi)]
    rw [List.take_set_of_le (Nat.le_refl i)]
    simp [hp]
  · rw [List.drop_set_of_lt (by have := h.lt; omega)]
    rw [← List.drop_drop, h.rest, List.drop_drop]
theorem DInv.skip {l xs : List S70} {i j : Nat} (h : DInv l i j xs) (hj : j < l.length) (hp : nz l[j] = false) : DInv l i (j + 1) xs := by
  refine ⟨h.len, by have := h.lt; omega, by omega, ?_, ?_⟩
  · rw [take_succ_get l j hj, List.filter_append, ← h.done]
    simp [hp]
  · rw [← List.drop_drop, h.rest, List.drop_drop]
theorem DInv.at_ {l xs : List S70} {i j : Nat} (h : DInv l i j xs) (hj : j < l.length) : xs[j]'(by rw [h.len]; exact hj) = l[j] := by
  have e : xs.drop j = l.drop j := h.rest
  rw [List.drop_eq_getElem_cons (by rw [h.len]; exact hj), List.drop_eq_getElem_cons hj] at e
  exact (List.cons.inj e).1
theorem idx_split (l : List S70) : (idxP (fun c => !nz c) l = -1 ∧ l.filter nz = l) ∨ ∃ k, k < l.length ∧ idxP (fun c => !nz c) l = (k : Int) ∧ DInv l k (k + 1) l := by
  unfold idxP
  cases h : l.findIdx? (fun c => !nz c) with
  | none =>
    left
    rw [List.findIdx?_eq_none_iff] at h
    exact ⟨rfl, List.filter_eq_self.mpr fun c hc => by simpa using h c hc⟩
  | some k =>
    right
    rw [List.findIdx?_eq_some_iff_getElem] at h
    obtain ⟨hk, h1, h2⟩ := h
    have hf : (l.take k).filter nz = l.take k := by
      rw [List.filter_eq_self]
      intro c hc
      obtain ⟨q, hq, rfl⟩ := List.getElem_of_mem hc
      rw [List.length_take] at hq
      rw [List.getElem_take]
      simpa using h2 q (by omega)
    refine ⟨k, hk, rfl, rfl, by omega, by omega, ?_, rfl⟩
    rw [take_succ_get l k hk, List.filter_append, hf]
    have : nz l[k] = false := by simpa using h1
    simp [this]

theorem R_cells {α : Type} {d : Kd α} {e base g n cap : Nat} {ok : Nat → Prop} {W : World} {xs : List α} (h : d.R e W base ok (.slice (some ⟨g, 0, none⟩) n cap) xs) : (∀ k, k < n * d.sz → (W.cell? ⟨g, k, none⟩).isSome = true) ∧ ∀ k, W.frozen? ⟨g, k, none⟩ = false := by
  obtain ⟨hn, hnc, hC⟩ := Kd.R_reads' h
  obtain ⟨_, inner, ho, hr⟩ := h
  refine ⟨fun k hk => ?_, fun k => ?_⟩
  · have hl : k < inner.length := by rw [hr.1, ← hn]; exact hk
    have := ho.cells (g := g) (by simp [Value.ownBlock]) k _ (List.getElem?_eq_getElem hl)
    rw [add_plain] at this
    rw [this]; rfl
  · obtain ⟨cells, hc⟩ := own_typed ho g (by simp [Value.ownBlock])
    exact blk_frozen hc _
theorem info70' : ∃ i, Try.prog.info? 70 = some i ∧ i.size = 3 := by
  obtain ⟨i, hi, hz⟩ := Option.map_eq_some_iff.1 info70
  simp only [Prod.mk.injEq] at hz
  exact ⟨i, hi, hz.2.1⟩
set_option maxHeartbeats 8000000 in
set_option maxRecDepth 100000 in
theorem del_calls (w0 W : World) (g cap : Nat) (l : List S70) (ok : Nat → Prop) (hb0 : Below w0.heap.size w0 W) (ho0 : Kd.R k70 70 W w0.heap.size ok (.slice (some ⟨g, 0, none⟩) l.length cap) l) (hg0 : w0.heap.size ≤ g) (hg1 : g < W.heap.size) :
    Calls Try.prog 88 #[.slice (some ⟨g, 0, none⟩) l.length cap, .func (.func 89) #[] #[]] W fun e w' => e = .returned (.slice (some ⟨g, 0, none⟩) (l.filter nz).length cap) ∧ Kd.R k70 70 w' w0.heap.size ok (.slice (some ⟨g, 0, none⟩) (l.filter nz).length cap) (l.filter nz) ∧ Below w0.heap.size w0 w' ∧ W.grownBy w' (some g) := by
  have hrd := (Kd.R_reads' ho0)
  have hi := idx_calls 89 #[] (fun c => !nz c) (some ⟨g, 0, none⟩) cap l W (fun a w => enters_of Try.func89 (by kernel_rfl) rfl a w) hrd.2.2 hrd.2.1 (fun d W' _ => at89_calls d W')
  have hcl := hrd.2.1
  have hmax := Kd.C_max hrd.2.2
  have HB0 := Aside0.mk hb0
  have HO0 := Aside0.mk ho0
  have HG0 := Aside0.mk hg0
  have HG1 := Aside0.mk hg1
  clear hb0 ho0 hrd hg0 hg1
  rcases idx_split l with ⟨e1, e2⟩ | ⟨k0, hk0, e1, hD⟩
  · rw [e1] at hi
    rw [e2]
    have HI := Lib.hid hi
    clear hi e1 e2
    go_enter Try.func88, Try.ntmps88
    go_wp2_with (go_at_call 94; refine (HI.out).mono ?_; rintro e w' ⟨rfl, hb⟩)
    go_ret
    exact ⟨rfl, Kd.R_below HO0.out hb, below_step HB0.out hb, grown_of_below _ hb⟩
  · rw [e1] at hi
    have HI := Lib.hid hi
    have HD := Aside0.mk hD
    have hne1 : ((k0 : Int) == -1) = false := beq_eq_false_iff_ne.2 (by omega)
    clear hi e1 hD
    go_enter Try.func88, Try.ntmps88
    go_wp2_with (go_at_call 94; refine (HI.out).mono ?_; rintro e w1 ⟨rfl, hb⟩)
    have HG := Aside0.mk (grown_of_below (some g) hb)
    have HO := Aside0.mk (Kd.R_below HO0.out hb)
    have HB := Aside0.mk (below_step HB0.out hb)
    clear hb
    go_loopw [5, 6] (fun v5 v6 wr => ∃ (i j : Nat) (xs : List S70), v5 = .int .i64 i ∧ v6 = .int .i64 j ∧ j ≤ l.length ∧ Aside0 (DInv l i j xs) ∧ Aside0 (Kd.R k70 70 wr w0.heap.size ok (.slice (some ⟨g, 0, none⟩) l.length cap) xs) ∧ Aside0 (Below w0.heap.size w0 wr) ∧ Aside0 (W.grownBy wr (some g))) (fun _ v6 _ => l.length - (intOf v6).toNat)
    case atStart => exact ⟨k0, k0 + 1, l, rfl, by go_num, by omega, HD, HO, HB, HG⟩
    case round =>
      clear HB HO HG
      obtain ⟨i, j, xs, rfl, rfl, hj, HD, HO, HB, HG⟩ := hrel
      by_cases hlt : j < l.length
      · have hkd : decide ((j : Int) < (l.length : Int)) = true := decide_eq_true (by omega)
        have hkd2 : decide (j < l.length) = true := decide_eq_true hlt
        have hjx : j < xs.length := by have := HD.out.len; omega
        have hat := Aside0.mk (HD.out.at_ hlt)
        have hij := HD.out.lt
        have hi2 : i < xs.length := by omega
        obtain ⟨ce, hcl1, hM, hcc, hfr⟩ := Kd.R_elem HO.out z70 (j : Int) (by omega) (by omega)
        obtain rfl := k70_openM hM
        have hx0 : wr.cell? ⟨g, (j : Int).toNat * 3, none⟩ = _ := hcc 0 _ rfl
        have hx1 : wr.cell? ⟨g, (j : Int).toNat * 3 + 1, none⟩ = _ := hcc 1 _ rfl
        have hx2 : wr.cell? ⟨g, (j : Int).toNat * 3 + 2, none⟩ = _ := hcc 2 _ rfl
        have hq0 : xs.getD (j : Int).toNat z70 = l[j] := by
          rw [Int.toNat_natCast, ← hat.out]
          simp [List.getD_eq_getElem?_getD, List.getElem?_eq_getElem hjx]
        rw [hq0, Int.toNat_natCast] at hx0 hx1 hx2
        clear hq0 hcc hfr hM hcl1
        have HQ := Aside0.mk (rfl : l[j] = l[j])
        generalize hqq : l[j] = q at hx0 hx1 hx2 hat
        have HE := Aside0.mk hqq
        clear hqq HQ
        have hcall := at89_calls q
        have hsg : w0.heap.size ≤ wr.heap.size := below_size HB.out
        cases hp : nz q with
        | true =>
          have hb89 : (!nz q) = false := by rw [hp]; rfl
          rw [hb89] at hcall
          have HP := Aside0.mk hp
          have HC := Lib.hid hcall
          clear hcall hp hb89
          go_wp2_with (first | ((with_reducible refine gate_dst (N := 7) rfl ?_); refine box_event ?hg (N := 7) ?hd (cs := #[.int .i64 0, .int .i64 0, .int .i64 0]) (t := 70) ?hr ?_; (case hd => rfl); (case hg => rfl); (case hr => first | (go_simp; done) | (go_simp; rfl)); intro gb hgb w1 hbox hb; have HBX := Aside0.mk hbox; have HB1 := Aside0.mk hb; have HGB := Aside0.mk hgb; have hz0 : w1.cell? ⟨gb, 0, none⟩ = some (.int .i64 0) := (blk_cell hbox 0).trans rfl; have hz1 : w1.cell? ⟨gb, 1, none⟩ = some (.int .i64 0) := (blk_cell hbox 1).trans rfl; have hz2 : w1.cell? ⟨gb, 2, none⟩ = some (.int .i64 0) := (blk_cell hbox 2).trans rfl; have hf0 := blk_frozen hbox 0; have hf1 := blk_frozen hbox 1; have hf2 := blk_frozen hbox 2; clear hbox hb hgb) | (go_at_call 89; refine (HC.out _).mono ?_; rintro e w2 ⟨rfl, hb2⟩; have hB2 : Below wr.heap.size wr w2 := below_step (below_set (below_set (below_set HB1.out (Nat.le_of_eq HGB.out.symm)) (Nat.le_of_eq HGB.out.symm)) (Nat.le_of_eq HGB.out.symm)) hb2; have HO2 := Aside0.mk (Kd.R_below HO.out hB2); have HW2 := Aside0.mk (below_step HB.out hB2); have HG2 := Aside0.mk (grown_below HG.out hB2); have hbx := Aside0.mk (blk_below (blk_put (blk_put (blk_put HBX.out 0 (.int .i64 q.f0) rfl) 1 (.int .i64 q.f1) rfl) 2 (.int .i64 q.f2) rfl) hb2); clear hb2 hB2 hz0 hz1 hz2 hf0 hf1 hf2 hx0 hx1 hx2; have b0 : w2.cell? ⟨gb, 0, none⟩ = some (.int .i64 q.f0) := (blk_cell hbx.out 0).trans rfl; have b1 : w2.cell? ⟨gb, 1, none⟩ = some (.int .i64 q.f1) := (blk_cell hbx.out 1).trans rfl; have b2 : w2.cell? ⟨gb, 2, none⟩ = some (.int .i64 q.f2) := (blk_cell hbx.out 2).trans rfl; obtain ⟨ci, hcl3, hM3, hcc3, hfr3⟩ := Kd.R_elem HO2.out z70 (i : Int) (by omega) (by omega); obtain rfl := k70_openM hM3; rw [Int.toNat_natCast] at hcc3 hfr3; have y0 := hcc3 0 _ rfl; have y1 := hcc3 1 _ rfl; have y2 := hcc3 2 _ rfl; have f0 := hfr3 0; have f1 := hfr3 1; have f2 := hfr3 2; simp only [show (k70).sz = 3 from rfl, Nat.add_zero] at y0 y1 y2 f0 f1 f2; have HP3 := Kd.R_seg HO2.out (i : Int) (by omega) (by omega) (seg := [.int .i64 q.f0, .int .i64 q.f1, .int .i64 q.f2]) (j := 0) hcl3 (by rw [Int.toNat_natCast]; exact hcc3) (show 3 ≤ 3 from by decide) (x' := q) (k70_mkM _ _ _ q) (fun _ hk => hk); rw [Int.toNat_natCast] at HP3; clear hcl3 hM3 hcc3 hfr3) | ((with_reducible refine gate_store (t := 70) (p := 33) rfl ?_); refine store_event (t := 70) (p := 33) (v := ?vo) (w1 := (((w2.setCell ⟨g, i * 3, none⟩ (.int .i64 q.f0)).setCell ⟨g, i * 3 + 1, none⟩ (.int .i64 q.f1)).setCell ⟨g, i * 3 + 2, none⟩ (.int .i64 q.f2))) ?hg ?ho ?hn ?hr ?_; (case ho => rfl); (case hg => rfl); (case hn => rfl); (case hr => first | (go_simp; done) | (go_simp; rfl)); intro w3 hw; have HO3 := Aside0.mk (show Kd.R k70 70 w3 w0.heap.size ok (.slice (some ⟨g, 0, none⟩) l.length cap) (xs.set i q) from by rw [hw]; exact HP3.1); have HW3 := Aside0.mk (show Below w0.heap.size w0 w3 from by rw [hw]; exact below_set (below_set (below_set HW2.out HG0.out) HG0.out) HG0.out); have HG3 := Aside0.mk (show W.grownBy w3 (some g) from by rw [hw]; exact grown_own (grown_own (grown_own HG2.out _ _) _ _) _ _); clear hw HP3))
          go_roundw
          case rel => exact ⟨i + 1, j + 1, xs.set i q, by go_num, by go_num, by omega, ⟨by have := HD.out.keep hlt (by rw [HE.out]; exact HP.out); rwa [HE.out] at this⟩, HO3, HW3, HG3⟩
          case measure => simp [intOf]; omega
        | false =>
          have hb89 : (!nz q) = true := by rw [hp]; rfl
          rw [hb89] at hcall
          have HP := Aside0.mk hp
          have HC := Lib.hid hcall
          clear hcall hp hb89
          go_wp2_with (first | ((with_reducible refine gate_dst (N := 7) rfl ?_); refine box_event ?hg (N := 7) ?hd (cs := #[.int .i64 0, .int .i64 0, .int .i64 0]) (t := 70) ?hr ?_; (case hd => rfl); (case hg => rfl); (case hr => first | (go_simp; done) | (go_simp; rfl)); intro gb hgb w1 hbox hb; have HBX := Aside0.mk hbox; have HB1 := Aside0.mk hb; have HGB := Aside0.mk hgb; have hz0 : w1.cell? ⟨gb, 0, none⟩ = some (.int .i64 0) := (blk_cell hbox 0).trans rfl; have hz1 : w1.cell? ⟨gb, 1, none⟩ = some (.int .i64 0) := (blk_cell hbox 1).trans rfl; have hz2 : w1.cell? ⟨gb, 2, none⟩ = some (.int .i64 0) := (blk_cell hbox 2).trans rfl; have hf0 := blk_frozen hbox 0; have hf1 := blk_frozen hbox 1; have hf2 := blk_frozen hbox 2; clear hbox hb hgb) | (go_at_call 89; refine (HC.out _).mono ?_; rintro e w2 ⟨rfl, hb2⟩; have hB2 : Below wr.heap.size wr w2 := below_step (below_set (below_set (below_set HB1.out (Nat.le_of_eq HGB.out.symm)) (Nat.le_of_eq HGB.out.symm)) (Nat.le_of_eq HGB.out.symm)) hb2; have HO2 := Aside0.mk (Kd.R_below HO.out hB2); have HW2 := Aside0.mk (below_step HB.out hB2); have HG2 := Aside0.mk (grown_below HG.out hB2); clear hb2 hB2 hz0 hz1 hz2 hf0 hf1 hf2 hx0 hx1 hx2))
          go_roundw
          case rel => exact ⟨i, j + 1, xs, rfl, by go_num, by omega, ⟨HD.out.skip hlt (by rw [HE.out]; exact HP.out)⟩, HO2, HW2, HG2⟩
          case measure => simp [intOf]; omega
      · have hkd : decide ((j : Int) < (l.length : Int)) = false := decide_eq_false (by omega)
        have hkd2 : decide (j < l.length) = false := decide_eq_false hlt
        obtain rfl : j = l.length := by omega
        have hdone := HD.out.done
        rw [List.take_length] at hdone
        have hil : i < l.length := HD.out.lt
        have hlen : (l.filter nz).length = i := by
          rw [← hdone, List.length_take, HD.out.len]
          omega
        obtain ⟨i70, hi70, hs70⟩ := info70'
        have hcut := cut_from 57 70 .i64 Try.underlying57 hi70 3 hs70 (some ⟨g, 0, none⟩) l.length cap (i : Int) (by omega) (by omega)
        have hcut2 := cut_to 57 70 .i64 Try.underlying57 hi70 (some ⟨g, 0, none⟩) l.length cap (i : Int) (by omega) (by omega) hcl
        rw [Int.toNat_natCast] at hcut hcut2
        rw [if_neg (by omega), Option.map_some, add_plain] at hcut
        obtain ⟨hcc, hfr⟩ := R_cells HO.out
        have hclr := fun ty => run_clear3 (P := Try.prog) wr 57 70 ty Try.underlying57 Try.zeroValue70 g (i * 3) (l.length - i) (cap - i) (by omega) (fun q hq => hcc _ (by show i * 3 + q < l.length * 3; omega)) (fun q hq => hfr _)
        obtain ⟨hR, hgr⟩ := R_cut_seg HO.out i (by omega) (seg := (Builtin.zeroCells (Value.agg #[.int .i64 0, .int .i64 0, .int .i64 0]).cells (l.length - i)).toList) (zero3 _).1
        have HR := Aside0.mk hR
        have HGR := Aside0.mk hgr
        have HDN := Aside0.mk hdone
        have HLN := Aside0.mk hlen
        clear hcc hfr hR hgr hdone hlen hi70 hs70
        go_wp2
        go_ret
        refine ⟨by rw [HLN.out]; rfl, ?_, ?_, grown_trans HG.out HGR.out⟩
        · rw [HLN.out, ← HDN.out]; exact HR.out
        · exact HB.out.grown HGR.out (below_size HB.out) (fun k hk => by cases hk; exact HG0.out)

def dec_to (l : List S70) (j : Nat) : List S70 := (l.take j).map dec1 ++ l.drop j
theorem dec_to_len (l : List S70) (j : Nat) : (dec_to l j).length = l.length := by
  unfold dec_to
  rw [List.length_append, List.length_map, List.length_take, List.length_drop]
  omega
theorem dec_to_at (l : List S70) (j : Nat) (h : j < l.length) : (dec_to l j).getD j z70 = l[j] := by
  unfold dec_to
  rw [List.getD_eq_getElem?_getD, List.getElem?_append_right (by simp; omega)]
  simp [Nat.min_eq_left (Nat.le_of_lt h), h]
theorem dec_to_set (l : List S70) (j : Nat) (h : j < l.length) : (dec_to l j).set j (dec1 l[j]) = dec_to l (j + 1) := by
  unfold dec_to
  rw [take_succ_get l j h, List.map_append, List.drop_eq_getElem_cons h]
  rw [List.set_append_right (s := (l.take j).map dec1) j _ (by simp; omega)]
  simp [Nat.min_eq_left (Nat.le_of_lt h)]
  rw [List.drop_eq_getElem_cons h]
  rfl
theorem dec_to_end (l : List S70) : dec_to l l.length = l.map dec1 := by simp [dec_to]

set_option maxHeartbeats 8000000 in
set_option maxRecDepth 100000 in
theorem lessen_calls (w0 W : World) (G : Nat) (a b v : Value) (y : Int) (l : List S70) (hl0 : 0 < l.length) (hsm : ∀ c ∈ l, 1 ≤ c.f1 ∧ c.f1 ≤ 1000) (hL : W.heap[G]? = some (.cells #[a, b, v] 91 (0, 0))) (hb0 : Below w0.heap.size w0 W) (ho0 : Kd.R k70 70 W w0.heap.size (fun _ => True) v l) (hG : w0.heap.size ≤ G) :
    Calls Try.prog 71 #[.pointer (some ⟨G, 0, none⟩), .int .i64 y] W fun e w' => e = .returned (.tuple #[]) ∧ ∃ v', w'.heap[G]? = some (.cells #[a, b, v'] 91 (0, 0)) ∧ Kd.R k70 70 w' w0.heap.size (fun _ => True) v' (lessen l) ∧ Below w0.heap.size w0 w' := by
  obtain ⟨g, cap, rfl, hg0, hg1, cells, hgt⟩ := Kd.R_form ho0 hl0
  have hgG : g ≠ G := blk_ne hgt hL (by decide)
  have hmax := Kd.C_max (Kd.R_reads' ho0).2.2
  have hc2 : W.cell? ⟨G, 2, none⟩ = some (.slice (some ⟨g, 0, none⟩) l.length cap) := (blk_cell hL 2).trans rfl
  have HL := Aside0.mk hL
  have HB0 := Aside0.mk hb0
  have HO0 := Aside0.mk ho0
  have HSM := Aside0.mk hsm
  have HG0 := Aside0.mk hg0
  have HGG := Aside0.mk hgG
  have HGw := Aside0.mk hG
  clear hL hb0 ho0 hsm hg0 hgG hgt hG
  go_enter Try.func71, Try.ntmps71
  go_wp2
  clear hc2 hg1
  go_loopw [10] (fun v10 wr => ∃ j : Nat, j ≤ l.length ∧ v10 = .int .i64 j ∧ Aside0 (wr.heap[G]? = some (.cells #[a, b, .slice (some ⟨g, 0, none⟩) l.length cap] 91 (0, 0))) ∧ Aside0 (Kd.R k70 70 wr w0.heap.size (fun _ => True) (.slice (some ⟨g, 0, none⟩) l.length cap) (dec_to l j)) ∧ Aside0 (Below w0.heap.size w0 wr)) (fun v10 _ => l.length - (intOf v10).toNat)
  case atStart => exact ⟨0, Nat.zero_le _, rfl, HL, by simpa [dec_to] using HO0, HB0⟩
  case round =>
    clear HL HB0 HO0
    obtain ⟨j, hj, rfl, HL, HO, HB⟩ := hrel
    have hc2 : wr.cell? ⟨G, 2, none⟩ = some (.slice (some ⟨g, 0, none⟩) l.length cap) := (blk_cell HL.out 2).trans rfl
    by_cases hlt : j < l.length
    · have hkd : decide ((j : Int) < (l.length : Int)) = true := decide_eq_true (by omega)
      have hkd2 : decide (j < l.length) = true := decide_eq_true hlt
      obtain ⟨ce, hcl1, hM, hcc, hfr⟩ := Kd.R_elem HO.out z70 (j : Int) (by omega) (by omega)
      rw [Int.toNat_natCast, dec_to_at l j hlt] at hM
      obtain rfl := k70_openM hM
      have hsm := HSM.out l[j] (List.getElem_mem hlt)
      have hset := Aside0.mk (dec_to_set l j hlt)
      generalize l[j] = q at *
      obtain ⟨hs1, hs2⟩ := hsm
      have HP := Kd.R_seg HO.out (j : Int) (by omega) (by omega) (seg := [.int .i64 (q.f1 - 1)]) (j := 1) hcl1 hcc (show 2 ≤ 3 from by decide) (x' := dec1 q) (k70_mkM _ _ _ (dec1 q)) (fun _ hk => hk)
      rw [Int.toNat_natCast] at hcc hfr HP
      have y0 := hcc 0 _ rfl
      have y1 := hcc 1 _ rfl
      have y2 := hcc 2 _ rfl
      have f0 := hfr 0
      have f1 := hfr 1
      have f2 := hfr 2
      simp only [show (k70).sz = 3 from rfl, Nat.add_zero] at y0 y1 y2 f0 f1 f2
      clear hcc hfr hM hcl1
      go_wp2_with ((with_reducible refine gate_store (t := 3) (p := 23) rfl ?_); refine store_event (t := 3) (p := 23) (v := ?vo) (w1 := (wr.setCell ⟨g, j * 3 + 1, none⟩ (.int .i64 (q.f1 - 1)))) ?hg ?ho ?hn ?hr ?_; (case ho => rfl); (case hg => rfl); (case hn => rfl); (case hr => first | (go_simp; done) | (go_simp; rfl)); intro w3 hw; have HO3 := Aside0.mk (show Kd.R k70 70 w3 w0.heap.size (fun _ => True) (.slice (some ⟨g, 0, none⟩) l.length cap) (dec_to l (j + 1)) from by rw [hw, ← hset.out]; exact HP.1); have HW3 := Aside0.mk (show Below w0.heap.size w0 w3 from by rw [hw]; exact below_set HB.out HG0.out); have HL3 := Aside0.mk (show w3.heap[G]? = some (.cells #[a, b, .slice (some ⟨g, 0, none⟩) l.length cap] 91 (0, 0)) from by rw [hw]; exact blk_far HL.out (fun e => HGG.out e.symm) _); clear hw HP)
      go_roundw
      case rel => exact ⟨j + 1, by omega, by go_num, HL3, HO3, HW3⟩
      case measure => simp [intOf]; omega
    · have hkd : decide ((j : Int) < (l.length : Int)) = false := decide_eq_false (by omega)
      have hkd2 : decide (j < l.length) = false := decide_eq_false hlt
      obtain rfl : j = l.length := by omega
      rw [dec_to_end] at HO
      have hlm : (l.map dec1).length = l.length := by simp
      have hg1 : g < wr.heap.size := by
        obtain ⟨cells, hc⟩ := own_typed (Kd.R_own HO.out).choose_spec g (by simp [Value.ownBlock])
        exact blk_lt hc
      have hdel := del_calls w0 wr g cap (l.map dec1) (fun _ => True) HB.out (by rw [hlm]; exact HO.out) HG0.out hg1
      rw [hlm] at hdel
      have HDL := Lib.hid hdel
      clear hdel hlm hg1
      go_wp2_with (go_at_call 88; refine (HDL.out).mono ?_; rintro e w3 ⟨rfl, hr, hb, hgr⟩; have HR3 := Aside0.mk hr; have HB3 := Aside0.mk hb; have hbk := Aside0.mk (blk_grown HL.out hgr (fun e => HGG.out (Option.some.inj e).symm)); have hz : w3.cell? ⟨G, 2, none⟩ = some (.slice (some ⟨g, 0, none⟩) l.length cap) := (blk_cell hbk.out 2).trans rfl; have hf : w3.frozen? ⟨G, 2, none⟩ = false := blk_frozen hbk.out 2; clear hr hb hgr hc2)
      go_end0
      refine ⟨rfl, _, blk_put hbk.out 2 _ rfl, Kd.R_set HR3.out hbk.out (fun q hq => by have : q = 70 := (by simpa [k70, Kd.iso, Kd.pair, Kd.int, Kd.scalar] using hq); rw [this]; decide) 2 _, below_set HB3.out HGw.out⟩
end Go.Proofs.Ytdffhffhnjkcpaa.X
