/- The walk of slices.DeleteFunc at the numbers that are 0, in a row of one's own. -/
import Derived.Test.YtefmafbbnkkpjaaXG2a
import Derived.Lib.Hide
import Derived.Lib.SliceRun
import Derived.Shelf.Abstract
namespace Go.Proofs.Ytefmafbbnkkpjaa.X
open Go.RowKit Go.Shelf Go.Proofs.YtefmafbbnkkpjaaW.PrintWords Go.Proofs.YtefmafbbnkkpjaaW.PrintLast Go.Proofs.YtefmafbbnkkpjaaW.PrintMore
set_option linter.unusedVariables false
set_option linter.unusedSimpArgs false

theorem grown_refl (W : World) (row : Option Nat) : W.grownBy W row := ⟨rfl, rfl, rfl, Nat.le_refl _, fun _ _ _ => rfl⟩
theorem grown_far {W wr : World} {row : Option Nat} (h : W.grownBy wr row) {g : Nat} (hg : W.heap.size ≤ g) (j : Nat) (v : Value) : W.grownBy (wr.setCell ⟨g, j, none⟩ v) row :=
  ⟨h.os, h.tape, h.output, by simpa using h.size, fun k hk hr => (Below.heap_setCell wr ⟨g, j, none⟩ v k (by show k ≠ g; omega)).trans (h.block k hk hr)⟩
theorem grown_own {W wr : World} {g : Nat} (h : W.grownBy wr (some g)) (j : Nat) (v : Value) : W.grownBy (wr.setCell ⟨g, j, none⟩ v) (some g) :=
  ⟨h.os, h.tape, h.output, by simpa using h.size, fun k hk hr => (Below.heap_setCell wr ⟨g, j, none⟩ v k (by show k ≠ g; rintro rfl; exact hr rfl)).trans (h.block k hk hr)⟩
theorem grown_below {W wr w' : World} {row : Option Nat} (h : W.grownBy wr row) (hb : Below wr.heap.size wr w') : W.grownBy w' row :=
  ⟨hb.os.trans h.os, hb.tape.trans h.tape, hb.output.trans h.output, Nat.le_trans h.size hb.size, fun k hk hr => (hb.block k (Nat.lt_of_lt_of_le hk h.size)).trans (h.block k hk hr)⟩
theorem grown_of_below {W w' : World} (row : Option Nat) (hb : Below W.heap.size W w') : W.grownBy w' row := grown_below (grown_refl W row) hb
theorem grown_trans {a b c : World} {row : Option Nat} (h : a.grownBy b row) (k : b.grownBy c row) : a.grownBy c row :=
  ⟨k.os.trans h.os, k.tape.trans h.tape, k.output.trans h.output, Nat.le_trans h.size k.size, fun i hi hr => (k.block i (Nat.lt_of_lt_of_le hi h.size) hr).trans (h.block i hi hr)⟩

/-- Cells behind the first i elements are written: the row of the first i is as it was. -/
theorem R_cut_seg {α : Type} {d : Kd α} {e base g n cap : Nat} {ok : Nat → Prop} {W : World} {xs : List α} (h : d.R e W base ok (.slice (some ⟨g, 0, none⟩) n cap) xs) (i : Nat) (hi : i ≤ n) {seg : List Value} (hs : seg.length = (n - i) * d.sz) :
    d.R e (W.setCells g (i * d.sz) seg) base ok (.slice (some ⟨g, 0, none⟩) i cap) (xs.take i) ∧ W.grownBy (W.setCells g (i * d.sz) seg) (some g) := by
  obtain ⟨hn, hnc, _⟩ := Kd.R_reads' h
  obtain ⟨hok, inner, ho, hr⟩ := Kd.R_take (m := i) h (by omega)
  have hmul : (n - i) * d.sz = n * d.sz - i * d.sz := Nat.sub_mul _ _ _
  have hle : i * d.sz ≤ n * d.sz := Nat.mul_le_mul_right _ hi
  have hle2 : n * d.sz ≤ cap * d.sz := Nat.mul_le_mul_right _ hnc
  have hil : (xs.take i).length = i := by rw [List.length_take]; omega
  obtain ⟨s1, s2, s3, s4⟩ := setCells_same g seg (i * d.sz) W
  have hfar : ∀ k, k ≠ g → (W.setCells g (i * d.sz) seg).heap[k]? = W.heap[k]? := fun k hk => setCells_far seg _ k hk
  refine ⟨⟨hok, inner, ?_, ?_⟩, ⟨s1, s2, s3, by rw [s4]; exact Nat.le_refl _, fun k _ hk => hfar k (fun he => hk (by rw [he]))⟩⟩
  · obtain ⟨ho1, ho2⟩ := ho
    refine ⟨ho1, ?_⟩
    rcases ho2 with ⟨hv, _⟩ | ⟨g', cap', cur, hv, hb, hh, hnc', hcm, hcs, ht⟩
    · cases hv
    injection hv with ha _ hc
    injection ha with ha
    injection ha with hg
    subst hg; subst hc
    have hfit : i * d.sz + seg.length ≤ cur.size := by omega
    obtain ⟨cur', h3, h4, h5⟩ := setCells_row seg (i * d.sz) W cur hh hfit
    refine .inr ⟨g, cap, cur', by rw [hil], hb, h3, hnc', hcm, by rw [h4, hcs], ?_⟩
    rw [← ht]
    apply List.ext_getElem?
    intro q
    rw [List.getElem?_take, List.getElem?_take, hil]
    by_cases hq : q < i * d.sz
    · rw [if_pos hq, if_pos hq, h5, seg_get cur.toList seg (i * d.sz) (by rw [Array.length_toList]; omega) q, if_pos hq]
    · rw [if_neg hq, if_neg hq]
  · refine hr.imp_ (fun p c hp => d.M_move (fun k hk => hfar k (fun he => hk.2 ?_)) hp)
    rw [he]; rfl


def nzI (x : Int) : Bool := !(x == 0)
def idxZ (p : Int → Bool) (l : List Int) : Int := match l.findIdx? p with
  | some i => (i : Nat)
  | none => -1
/-- What the search for what stays has done. -/
structure DInv (l : List Int) (i j : Nat) (xs : List Int) : Prop where
  len : xs.length = l.length
  lt : i < j
  le : j ≤ l.length
  done : xs.take i = (l.take j).filter nzI
  rest : xs.drop j = l.drop j
theorem take_succ_get (l : List Int) (j : Nat) (h : j < l.length) : l.take (j + 1) = l.take j ++ [l[j]] := by
  rw [List.take_succ_eq_append_getElem h]
theorem DInv.keep {l xs : List Int} {i j : Nat} (h : DInv l i j xs) (hj : j < l.length) (hp : nzI l[j] = true) : DInv l (i + 1) (j + 1) (xs.set i l[j]) := by
  have hi : i < xs.length := by have := h.len; have := h.lt; omega
  refine ⟨by rw [List.length_set, h.len], by have := h.lt; omega, by omega, ?_, ?_⟩
  · rw [take_succ_get l j hj, List.filter_append, ← h.done]
    rw [take_succ_get (xs.set i l[j]) i (by rw [List.length_set]; exact hi)]
    rw [List.take_set_of_le (Nat.le_refl i)]
    simp [hp]
  · rw [List.drop_set_of_lt (by have := h.lt; omega)]
    rw [← List.drop_drop, h.rest, List.drop_drop]
theorem DInv.skip {l xs : List Int} {i j : Nat} (h : DInv l i j xs) (hj : j < l.length) (hp : nzI l[j] = false) : DInv l i (j + 1) xs := by
  refine ⟨h.len, by have := h.lt; omega, by omega, ?_, ?_⟩
  · rw [take_succ_get l j hj, List.filter_append, ← h.done]
    simp [hp]
  · rw [← List.drop_drop, h.rest, List.drop_drop]
theorem DInv.at_ {l xs : List Int} {i j : Nat} (h : DInv l i j xs) (hj : j < l.length) : xs[j]'(by rw [h.len]; exact hj) = l[j] := by
  have e : xs.drop j = l.drop j := h.rest
  rw [List.drop_eq_getElem_cons (by rw [h.len]; exact hj), List.drop_eq_getElem_cons hj] at e
  exact (List.cons.inj e).1
theorem idx_split (l : List Int) : (idxZ (fun c => !nzI c) l = -1 ∧ l.filter nzI = l) ∨ ∃ k, k < l.length ∧ idxZ (fun c => !nzI c) l = (k : Int) ∧ DInv l k (k + 1) l := by
  unfold idxZ
  cases h : l.findIdx? (fun c => !nzI c) with
  | none =>
    left
    rw [List.findIdx?_eq_none_iff] at h
    exact ⟨rfl, List.filter_eq_self.mpr fun c hc => by simpa using h c hc⟩
  | some k =>
    right
    rw [List.findIdx?_eq_some_iff_getElem] at h
    obtain ⟨hk, h1, h2⟩ := h
    have hf : (l.take k).filter nzI = l.take k := by
      rw [List.filter_eq_self]
      intro c hc
      obtain ⟨q, hq, rfl⟩ := List.getElem_of_mem hc
      rw [List.length_take] at hq
      rw [List.getElem_take]
      simpa using h2 q (by omega)
    refine ⟨k, hk, rfl, rfl, by omega, by omega, ?_, rfl⟩
    rw [take_succ_get l k hk, List.filter_append, hf]
    have : nzI l[k] = false := by simpa using h1
    simp [this]

theorem R_cells {α : Type} {d : Kd α} {e base g n cap : Nat} {ok : Nat → Prop} {W : World} {xs : List α} (h : d.R e W base ok (.slice (some ⟨g, 0, none⟩) n cap) xs) : (∀ k, k < n * d.sz → (W.cell? ⟨g, k, none⟩).isSome = true) ∧ ∀ k, W.frozen? ⟨g, k, none⟩ = false := by
  obtain ⟨hn, hnc, hC⟩ := Kd.R_reads' h
  obtain ⟨_, inner, ho, hr⟩ := h
  refine ⟨fun k hk => ?_, fun k => ?_⟩
  · have hl : k < inner.length := by rw [hr.1, ← hn]; exact hk
    have := ho.cells (g := g) (by simp [Value.ownBlock]) k _ (List.getElem?_eq_getElem hl)
    rw [add_plain] at this
    rw [this]; rfl
  · obtain ⟨cells, hc⟩ := own_typed ho g (by simp [Value.ownBlock])
    exact blk_frozen hc _

theorem rdZ (l : List Int) (i : Nat) (h : i < l.length) : rd l (i : Int) = l[i] := by
  simp [rd, List.getD_eq_getElem?_getD, List.getElem?_eq_getElem h]
theorem idx102_l (l : List Int) (hl : l.length ≤ 1000) (d : Nat) : ∀ (k i : Nat), i + d = l.length → d < k → (∀ j (hj : j < l.length), j < i → nzI l[j] = true) →
    slices_IndexFunc_int_int_with102.l0 k l (l.length : Int) (i : Int) = some (idxZ (fun c => !nzI c) l) := by
  induction d with
  | zero =>
    intro k i hi hk hn
    obtain ⟨k, rfl⟩ : ∃ m, k = m + 1 := ⟨k - 1, by omega⟩
    simp only [slices_IndexFunc_int_int_with102.l0]
    rw [if_neg (by omega)]
    unfold idxZ
    have : l.findIdx? (fun c => !nzI c) = none := by
      rw [List.findIdx?_eq_none_iff]
      intro x hx
      obtain ⟨j, hj, rfl⟩ := List.getElem_of_mem hx
      simp [hn j hj (by omega)]
    rw [this]
  | succ d ih =>
    intro k i hi hk hn
    obtain ⟨k, rfl⟩ : ∃ m, k = m + 1 := ⟨k - 1, by omega⟩
    have hlt : i < l.length := by omega
    simp only [slices_IndexFunc_int_int_with102.l0, shares_lower_1.f]
    rw [if_pos (by omega), if_pos (by omega), if_pos (by omega), rdZ l i hlt]
    simp only [Option.bind_some]
    by_cases h : l[i] = 0
    · have hb : (l[i] == 0) = true := by simp [h]
      rw [if_pos hb]
      unfold idxZ
      have : l.findIdx? (fun c => !nzI c) = some i := by
        rw [List.findIdx?_eq_some_iff_getElem]
        exact ⟨hlt, by simp [nzI, h], fun j hji => by simp [hn j (by omega) hji]⟩
      rw [this]
    · have hb : ¬ (l[i] == 0) = true := by simp [h]
      rw [if_neg hb, show wrap64 ((i : Int) + 1) = ((i + 1 : Nat) : Int) by unfold wrap64; omega]
      refine ih k (i + 1) (by omega) (by omega) (fun j hj hji => ?_)
      by_cases e : j = i
      · subst e; simp [nzI, h]
      · exact hn j hj (by omega)
theorem idx102_calls (A : Option Addr) (c : Nat) (l : List Int) (w : World) (hl : l.length ≤ 1000) (hr : Kd.C (Kd.int .i64) w A l.length l) (hc : l.length ≤ c) :
    Calls Try.prog 123 #[.slice A l.length c, .func (.func 102) #[] #[]] w fun e w' => e = .returned (.int .i64 (idxZ (fun c => !nzI c) l)) ∧ Drawn0 w w' :=
  slices_IndexFunc_int_int_with102.calls (l.length + 1) A c l _ w hr hc (idx102_l l hl l.length (l.length + 1) 0 (by omega) (by omega) (fun j _ h => absurd h (Nat.not_lt_zero _)))
theorem at102_calls (x : Int) (W : World) : Calls Try.prog 102 #[.int .i64 x] W fun e w' => e = .returned (.bool (!nzI x)) ∧ Drawn0 W w' :=
  shares_lower_1.calls x _ W (by simp [shares_lower_1.f, nzI])
set_option maxHeartbeats 8000000 in
set_option maxRecDepth 100000 in
theorem del_calls (w0 W : World) (g cap : Nat) (l : List Int) (ok : Nat → Prop) (hlm : l.length ≤ 1000) (hb0 : Below w0.heap.size w0 W) (ho0 : Kd.R (Kd.int .i64) 3 W w0.heap.size ok (.slice (some ⟨g, 0, none⟩) l.length cap) l) (hg0 : w0.heap.size ≤ g) (hg1 : g < W.heap.size) :
    Calls Try.prog 101 #[.slice (some ⟨g, 0, none⟩) l.length cap, .func (.func 102) #[] #[]] W fun e w' => e = .returned (.slice (some ⟨g, 0, none⟩) (l.filter nzI).length cap) ∧ Kd.R (Kd.int .i64) 3 w' w0.heap.size ok (.slice (some ⟨g, 0, none⟩) (l.filter nzI).length cap) (l.filter nzI) ∧ Below w0.heap.size w0 w' ∧ W.grownBy w' (some g) := by
  have hrd := (Kd.R_reads' ho0)
  have hi := idx102_calls (some ⟨g, 0, none⟩) cap l W hlm hrd.2.2 hrd.2.1
  have hcl := hrd.2.1
  have HB0 := Aside0.mk hb0
  have HO0 := Aside0.mk ho0
  have HG0 := Aside0.mk hg0
  have HG1 := Aside0.mk hg1
  clear hb0 ho0 hrd hg0 hg1
  rcases idx_split l with ⟨e1, e2⟩ | ⟨k0, hk0, e1, hD⟩
  · rw [e1] at hi
    rw [e2]
    have HI := Lib.hid hi
    clear hi e1 e2
    go_enter Try.func101, Try.ntmps101
    go_wp2_with (go_at_call 123; refine (HI.out).mono ?_; rintro e w' ⟨rfl, ⟨nd, rfl⟩⟩)
    go_ret
    exact ⟨rfl, Kd.R_drewN HO0.out _, pw_below_drewN HB0.out _, grown_of_below _ (pw_below_drewN (Below.refl _ _) _)⟩
  · rw [e1] at hi
    have HI := Lib.hid hi
    have HD := Aside0.mk hD
    have hne1 : ((k0 : Int) == -1) = false := beq_eq_false_iff_ne.2 (by omega)
    clear hi e1 hD
    go_enter Try.func101, Try.ntmps101
    go_wp2_with (go_at_call 123; refine (HI.out).mono ?_; rintro e w1 ⟨rfl, hdr⟩; have hb : Below W.heap.size W w1 := (by obtain ⟨nd, rfl⟩ := hdr; exact pw_below_drewN (Below.refl _ _) _); clear hdr)
    have HG := Aside0.mk (grown_of_below (some g) hb)
    have HO := Aside0.mk (Kd.R_below HO0.out hb)
    have HB := Aside0.mk (below_step HB0.out hb)
    clear hb
    go_loopw [5, 6] (fun v5 v6 wr => ∃ (i j : Nat) (xs : List Int), v5 = .int .i64 i ∧ v6 = .int .i64 j ∧ j ≤ l.length ∧ Aside0 (DInv l i j xs) ∧ Aside0 (Kd.R (Kd.int .i64) 3 wr w0.heap.size ok (.slice (some ⟨g, 0, none⟩) l.length cap) xs) ∧ Aside0 (Below w0.heap.size w0 wr) ∧ Aside0 (W.grownBy wr (some g))) (fun _ v6 _ => l.length - (intOf v6).toNat)
    case atStart => exact ⟨k0, k0 + 1, l, rfl, by go_num, by omega, HD, HO, HB, HG⟩
    case round =>
      clear HB HO HG
      obtain ⟨i, j, xs, rfl, rfl, hj, HD, HO, HB, HG⟩ := hrel
      by_cases hlt : j < l.length
      · have hkd : decide ((j : Int) < (l.length : Int)) = true := decide_eq_true (by omega)
        have hkd2 : decide (j < l.length) = true := decide_eq_true hlt
        have hjx : j < xs.length := by have := HD.out.len; omega
        have hat := Aside0.mk (HD.out.at_ hlt)
        have hij := HD.out.lt
        have hi2 : i < xs.length := by omega
        obtain ⟨ce, hcl1, hM, hcc, hfr⟩ := Kd.R_elem HO.out (0 : Int) (j : Int) (by omega) (by omega)
        obtain rfl : ce = [.int .i64 (xs.getD (j : Int).toNat 0)] := hM
        have hx0 : wr.cell? ⟨g, (j : Int).toNat * 1, none⟩ = _ := hcc 0 _ rfl
        have hq0 : xs.getD (j : Int).toNat 0 = l[j] := by
          rw [Int.toNat_natCast, ← hat.out]
          simp [List.getD_eq_getElem?_getD, List.getElem?_eq_getElem hjx]
        rw [hq0, Int.toNat_natCast, Nat.mul_one] at hx0
        clear hq0 hcc hfr hcl1
        generalize hqq : l[j] = q at hx0 hat
        have HE := Aside0.mk hqq
        clear hqq
        have hcall := at102_calls q
        have hsg : w0.heap.size ≤ wr.heap.size := below_size HB.out
        cases hp : nzI q with
        | true =>
          have hb89 : (!nzI q) = false := by rw [hp]; rfl
          rw [hb89] at hcall
          have HP := Aside0.mk hp
          have HC := Lib.hid hcall
          clear hcall hp hb89
          go_wp2_with (first | (go_at_call 102; refine (HC.out _).mono ?_; rintro e w2 ⟨rfl, hdr⟩; have hb2 : Below wr.heap.size wr w2 := (by obtain ⟨nd, rfl⟩ := hdr; exact pw_below_drewN (Below.refl _ _) _); clear hdr; have HO2 := Aside0.mk (Kd.R_below HO.out hb2); have HW2 := Aside0.mk (below_step HB.out hb2); have HG2 := Aside0.mk (grown_below HG.out hb2); clear hb2 hx0; obtain ⟨ci, hcl3, hM3, hcc3, hfr3⟩ := Kd.R_elem HO2.out (0 : Int) (i : Int) (by omega) (by omega); obtain rfl : ci = [.int .i64 (xs.getD (i : Int).toNat 0)] := hM3; have HP3 := Kd.R_seg HO2.out (i : Int) (by omega) (by omega) (seg := [.int .i64 q]) (j := 0) hcl3 hcc3 (show 1 ≤ 1 from by decide) (x' := q) (show (Kd.int .i64).M w2 w0.heap.size (fun k => ok k ∧ k ≠ g) q [.int .i64 q] from rfl) (fun _ hk => hk); rw [Int.toNat_natCast] at hcc3 hfr3 HP3; have y0 := hcc3 0 _ rfl; have f0 := hfr3 0; simp only [show (Kd.int .i64).sz = 1 from rfl, Nat.add_zero, Nat.mul_one] at y0 f0; clear hcl3 hcc3 hfr3) | ((with_reducible refine gate_store (t := 3) (p := 33) rfl ?_); refine store_event (t := 3) (p := 33) (v := ?vo) (w1 := (w2.setCell ⟨g, i, none⟩ (.int .i64 q))) ?hg ?ho ?hn ?hr ?_; (case ho => rfl); (case hg => rfl); (case hn => rfl); (case hr => first | (go_simp; done) | (go_simp; rfl)); intro w3 hw; have HO3 := Aside0.mk (show Kd.R (Kd.int .i64) 3 w3 w0.heap.size ok (.slice (some ⟨g, 0, none⟩) l.length cap) (xs.set i q) from by rw [hw]; have h9 := HP3.1; simp only [show (Kd.int .i64).sz = 1 from rfl, Nat.add_zero, Nat.mul_one] at h9; exact h9); have HW3 := Aside0.mk (show Below w0.heap.size w0 w3 from by rw [hw]; exact below_set HW2.out HG0.out); have HG3 := Aside0.mk (show W.grownBy w3 (some g) from by rw [hw]; exact grown_own HG2.out _ _); clear hw HP3))
          go_roundw
          case rel => exact ⟨i + 1, j + 1, xs.set i q, by go_num, by go_num, by omega, ⟨by have := HD.out.keep hlt (by rw [HE.out]; exact HP.out); rwa [HE.out] at this⟩, HO3, HW3, HG3⟩
          case measure => simp [intOf]; omega
        | false =>
          have hb89 : (!nzI q) = true := by rw [hp]; rfl
          rw [hb89] at hcall
          have HP := Aside0.mk hp
          have HC := Lib.hid hcall
          clear hcall hp hb89
          go_wp2_with (first | (go_at_call 102; refine (HC.out _).mono ?_; rintro e w2 ⟨rfl, hdr⟩; have hb2 : Below wr.heap.size wr w2 := (by obtain ⟨nd, rfl⟩ := hdr; exact pw_below_drewN (Below.refl _ _) _); clear hdr; have HO2 := Aside0.mk (Kd.R_below HO.out hb2); have HW2 := Aside0.mk (below_step HB.out hb2); have HG2 := Aside0.mk (grown_below HG.out hb2); clear hb2 hx0))
          go_roundw
          case rel => exact ⟨i, j + 1, xs, rfl, by go_num, by omega, ⟨HD.out.skip hlt (by rw [HE.out]; exact HP.out)⟩, HO2, HW2, HG2⟩
          case measure => simp [intOf]; omega
      · have hkd : decide ((j : Int) < (l.length : Int)) = false := decide_eq_false (by omega)
        have hkd2 : decide (j < l.length) = false := decide_eq_false hlt
        obtain rfl : j = l.length := by omega
        have hdone := HD.out.done
        rw [List.take_length] at hdone
        have hil : i < l.length := HD.out.lt
        have hlen : (l.filter nzI).length = i := by
          rw [← hdone, List.length_take, HD.out.len]
          omega
        obtain ⟨i3, hi3, _, hs3, _⟩ := info_parts info3
        have hcut := cut_from 22 3 .i64 Try.underlying22 hi3 1 hs3 (some ⟨g, 0, none⟩) l.length cap (i : Int) (by omega) (by omega)
        have hcut2 := cut_to 22 3 .i64 Try.underlying22 hi3 (some ⟨g, 0, none⟩) l.length cap (i : Int) (by omega) (by omega) hcl
        rw [Int.toNat_natCast] at hcut hcut2
        rw [if_neg (by omega), Option.map_some, add_plain, Nat.mul_one] at hcut
        obtain ⟨hcc, hfr⟩ := R_cells HO.out
        have hclr := fun ty => Lib.run_clear_slice (P := Try.prog) wr 22 3 ty (.int .i64 0) Try.underlying22 Try.zeroValue3 rfl rfl g i (l.length - i) (cap - i) (by omega) (fun q hq => hcc _ (by show i + q < l.length * 1; omega)) (fun q hq => hfr _)
        obtain ⟨hR, hgr⟩ := R_cut_seg HO.out i (by omega) (seg := List.replicate (l.length - i) (.int .i64 0)) (by rw [List.length_replicate]; exact (Nat.mul_one _).symm)
        simp only [show (Kd.int .i64).sz = 1 from rfl, Nat.mul_one] at hR hgr
        have HR := Aside0.mk hR
        have HGR := Aside0.mk hgr
        have HDN := Aside0.mk hdone
        have HLN := Aside0.mk hlen
        clear hcc hfr hR hgr hdone hlen hi3 hs3
        go_wp2
        go_ret
        refine ⟨by rw [HLN.out]; rfl, ?_, ?_, grown_trans HG.out HGR.out⟩
        · rw [HLN.out, ← HDN.out]; exact HR.out
        · exact HB.out.grown HGR.out (below_size HB.out) (fun k hk => by cases hk; exact HG0.out)
end Go.Proofs.Ytefmafbbnkkpjaa.X
