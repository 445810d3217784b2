/- The walk of each with Rename's closure: every row cloned, and its choice in one column renamed. -/
import Derived.Test.YtkieehjpnjplmaaXG1a
import Derived.Lib.Hide
import Derived.RegionTactic
import Derived.BigRegion
namespace Go.Proofs.Ytkieehjpnjplmaa
open Go Go.Proofs Go.RowKit Go.Proofs.Ytkieehjpnjplmaa.X Go.Proofs.YtkieehjpnjplmaaW.PrintWords Go.Proofs.YtkieehjpnjplmaaW.PrintLast Go.Proofs.YtkieehjpnjplmaaW.PrintMore
set_option linter.unusedVariables false
set_option linter.unusedSimpArgs false
/-- a row with its choice in column c renamed -/
def ren (tt : List Int) (c : Int) (row : List Int) : List Int := row.set c.toNat (rd tt (rd row c))
structure RenOk (tt : List Int) (c : Int) (row : List Int) : Prop where
  c0 : 0 ≤ c
  c1 : c < row.length
  x0 : 0 ≤ rd row c
  x1 : rd row c < tt.length
  hl : row.length ≤ 100
def renV (Bt Bc : Nat) : Value := .func (.func 26) #[] #[.pointer (some ⟨Bt, 0, none⟩), .pointer (some ⟨Bc, 0, none⟩)]
set_option maxHeartbeats 4000000 in
theorem ren26_calls (tt : List Int) (c : Int) (row : List Int) (h : RenOk tt c row) (Bt Bc : Nat) (At : Option Addr) (ct : Nat) (A : Option Addr) (cp : Nat) (W0 w : World) (hto : w.cell? ⟨Bt, 0, none⟩ = some (.slice At tt.length ct)) (hc : w.cell? ⟨Bc, 0, none⟩ = some (.int .i64 c)) (hC : Kd.C (Kd.int .i64) w At tt.length tt)
    (hB : Below W0.heap.size W0 w) (hR : Kd.R (Kd.int .i64) 3 w W0.heap.size (fun _ => True) (.slice A row.length cp) row) :
    Calls Try.prog 26 #[.slice A row.length cp, .pointer (some ⟨Bt, 0, none⟩), .pointer (some ⟨Bc, 0, none⟩)] w fun e w' =>
      e = .returned (.slice A row.length cp) ∧ Kd.R (Kd.int .i64) 3 w' W0.heap.size (fun _ => True) (.slice A row.length cp) (ren tt c row) ∧ Below W0.heap.size W0 w' := by
  obtain ⟨c0, c1, x0, x1, hl⟩ := h
  obtain ⟨g, cap, hv, hbase, hlt, cells, hblk⟩ := Kd.R_form hR (by omega)
  injection hv with hA _ hcp
  subst hA hcp
  obtain ⟨ad, ead, hcell⟩ := Kd.at_int hC (rd row c) x0 x1
  subst ead
  have hrow := Kd.at_int (Kd.R_reads' hR).2.2 c c0 c1
  obtain ⟨ad2, e2, hcell2⟩ := hrow
  injection e2 with e2
  subst e2
  rw [add_at, Nat.zero_add] at hcell2
  have HR := ak hR
  have HB := ak hB
  have HBS := ak hbase
  have HX := ak (show rd row c = rd row c from rfl)
  generalize hx : rd row c = x at *
  generalize hy : rd tt x = y at *
  have HXX := ak hx
  have HYY := ak hy
  clear hx hy HX
  have hfz := blk_frozen hblk c.toNat
  clear hR hB hC hblk
  go_enter Try.func26, Try.ntmps26
  go_wp2
  go_region
  go_wp2
  go_ret
  refine ⟨rfl, ?_, below_drew1 (below_set HB.out HBS.out)⟩
  have h9 := Kd.R_putn HR.out c y
  unfold ren
  rw [HXX.out, HYY.out]
  exact h9
def each.T5 : Bool × List (List Nat × List Nat) := (true,  [([], []), ([0], [0]), ([], []), ([], []), ([3], [3]), ([2, 4, 4], [2, 4]), ([5], [5]), ([1, 6, 5], [1, 6]), ([0, 1, 2, 3, 4, 5, 6, 7], []), ([8, 7, 7, 0, 1, 2, 3, 4, 5, 6, 7], [7, 8])])
def each.B5 : List Nat := [0, 1, 0, 0, 8, 28, 60, 127, 255, 511]
theorem each.tab5 : rtab .any (opsOf Try.f25 5) = each.T5 := by kernel_rfl
theorem each.bits5 : waitsOk each.T5.2 each.B5 = true := by kernel_rfl
theorem each.goesV {P : Program} {ops : Array Oper} {Q : Exit → Act → World → Prop} {oi : Oper} {N : Option Tmp} {a : Act} {w : World} {K : Act → World → Prop} {f : FuncId} {fn : Func} {t : Operand} {ars : Array Operand} {ts : Array TypeId} {cap : Array Value} (hf : P.funcs[f]? = some fn) (hname : (fn.name == "runtime.NumGoroutine") = false) (hb : fn.body.isSome = true) (args0 args : Array Value)
    (hw : Region.wanted oi (yielded ops a.tmps) = true) (hN : oi.dst = N) (hop : oi.op = .call { callee := .value t, args := ars, argTypes := ts }) (hv : a.eval t = .func (.func f) #[] cap) (hcap : args0 ++ cap = args) (hargs : ars.map a.eval = args0)
    (h : Calls P f args w fun e w' => ∃ v, e = .returned v ∧ K (a.put N v) w') : if Region.wanted oi (yielded ops a.tmps) = true then Oper.wp P oi a w K Q else K (a.put N undef) w := by
  refine call_ f args hw hN ?_ h
  have he := enters_ hf hname hb args w
  unfold execOp
  simp [hop, resolve, Deferred.ofValue, invoke, hv, hargs, hcap, he]
def EOut (w0 w : World) (g5 : Nat) (v : Int) (L : List (List Int)) : Prop := ∃ vo, w.heap[g5]? = some (.cells #[.int .i64 v, vo] 25 (0, 0)) ∧ Kd.S (Kd.slice 3 (Kd.int .i64)) 22 w w0.heap.size (fun _ => True) vo L
theorem two_cells9 (w : World) (g : Nat) {u0 u1 : Value} (c0 : w.cell? ⟨g, 0, none⟩ = some u0) (c1 : w.cell? ⟨g, 1, none⟩ = some u1) (v0 v1 : Value) :
    ((w.setCell ⟨g, 0, none⟩ v0).setCell ⟨g, 1, none⟩ v1).cell? ⟨g, 0, none⟩ = some v0 ∧ ((w.setCell ⟨g, 0, none⟩ v0).setCell ⟨g, 1, none⟩ v1).cell? ⟨g, 1, none⟩ = some v1 := by
  have e1 : (⟨g, 1, none⟩ : Addr) ≠ ⟨g, 0, none⟩ := by simp
  have e2 : (⟨g, 0, none⟩ : Addr) ≠ ⟨g, 1, none⟩ := by simp
  refine ⟨?_, ?_⟩
  · rw [World.cell?_setCell_other (h := e1)]
    exact World.cell?_setCell_same (h := c0) ..
  · refine World.cell?_setCell_same (u := u1) (h := ?_) ..
    rw [World.cell?_setCell_other (h := e2)]
    exact c1
theorem clone_f9 (l : List Int) (h : l.length ≤ 1000) : slices_Clone_int_int.f l = some l := by simp [slices_Clone_int_int.f]; omega
theorem ren_length (tt : List Int) (c : Int) (row : List Int) : (ren tt c row).length = row.length := by simp [ren]
set_option maxHeartbeats 16000000 in
set_option maxRecDepth 100000 in
theorem each_calls (v : Int) (l : List (List Int)) (tt : List Int) (c : Int) (hl : l.length ≤ 100) (hrows : ∀ i : Nat, i < l.length → RenOk tt c (rd_L1 l i)) (Bt Bc : Nat) (At : Option Addr) (ct : Nat) (Al : Option Addr) (cl : Nat) (w : World) (hto : w.cell? ⟨Bt, 0, none⟩ = some (.slice At tt.length ct)) (hc : w.cell? ⟨Bc, 0, none⟩ = some (.int .i64 c)) (hC : Kd.C (Kd.int .i64) w At tt.length tt)
    (hCl : Kd.C (Kd.slice 3 (Kd.int .i64)) w Al l.length l) (hcl : l.length ≤ cl) :
    Calls Try.prog 25 #[.agg #[.int .i64 v, .slice Al l.length cl], renV Bt Bc] w fun e w' =>
      ∃ v1, e = .returned (.agg #[.int .i64 v, v1]) ∧ Kd.S (Kd.slice 3 (Kd.int .i64)) 22 w' w.heap.size (fun _ => True) v1 (l.map (ren tt c)) ∧ Below w.heap.size w w' := by
  have HTO := ak hto
  have HC := ak hc
  have HCT := ak hC
  have HCL := ak hCl
  have HRW := ak hrows
  have HLC := ak hcl
  have HB := ak (Below.refl w.heap.size w)
  unfold renV
  clear hto hc hC hCl hrows hcl
  go_enter Try.func25, Try.ntmps25
  go_wp2_with (first
    | ((with_reducible refine gate_dst (N := 2) rfl ?_); refine bE 2 #[.int .i64 v, .slice Al l.length cl] 25 ?_; intro g2 hg2 w2 hbox hb; have B2 := ak (hbox); replace HB := kH _ hb; clear hb hg2 hbox; have hc20 : w2.cell? ⟨g2, 0, none⟩ = some (.int .i64 v) := bc B2 0; have hc21 : w2.cell? ⟨g2, 1, none⟩ = some (.slice Al l.length cl) := bc B2 1)
    | ((with_reducible refine gate_dst (N := 4) rfl ?_); refine bE 4 #[.int .i64 0, .slice none 0 0] 25 ?_; intro g4 hg4 w4 hbox hb; have B4 := ak (hbox); replace B2 := kB B2 hb; have HG4 := kG w hg4; replace HB := kH _ hb; clear hb hg4 hbox hc20 hc21; have hc20 : w4.cell? ⟨g2, 0, none⟩ = some (.int .i64 v) := bc B2 0; have hc21 : w4.cell? ⟨g2, 1, none⟩ = some (.slice Al l.length cl) := bc B2 1)
    | ((with_reducible refine gate_dst (N := 5) rfl ?_); refine bE 5 #[.int .i64 0, .slice none 0 0] 25 ?_; intro g5 hg5 w5 hbox hb; have B5 := ak (hbox); have HNE := kL B4 hg5; have HN2 := kL B2 hg5; replace B2 := kB B2 hb; replace B4 := kB B4 hb; have HG5 := kG w hg5; replace HB := kH _ hb; clear hb hg5 hbox hc20 hc21; have hc20 : w5.cell? ⟨g2, 0, none⟩ = some (.int .i64 v) := bc B2 0; have hc21 : w5.cell? ⟨g2, 1, none⟩ = some (.slice Al l.length cl) := bc B2 1; have hn25 := HN2.out; have hn52 := fun h => HN2.out (Eq.symm h); have hc50 : w5.cell? ⟨g5, 0, none⟩ = some (.int .i64 0) := bc B5 0; have hc51 : w5.cell? ⟨g5, 1, none⟩ = some (.slice none 0 0) := bc B5 1; have hf50 := fz B5 0; have hf51 := fz B5 1))
  have HO := ak (show EOut w ((w5.setCell ⟨g5, 0, none⟩ (.int .i64 v)).setCell ⟨g5, 1, none⟩ (.slice none 0 0)) g5 v [] from ⟨.slice none 0 0, blk_put (cs := #[.int .i64 v, .slice none 0 0]) (blk_put B5.out 0 _ rfl) 1 _ rfl, Kd.S_nil _ _ _ _ _⟩)
  replace B4 := ak (blk_far (blk_far B4.out (p := ⟨g5, 0, none⟩) HNE.out (.int .i64 v)) (p := ⟨g5, 1, none⟩) HNE.out (.slice none 0 0))
  replace HB := ak (show Below w.heap.size w ((w5.setCell ⟨g5, 0, none⟩ (.int .i64 v)).setCell ⟨g5, 1, none⟩ (.slice none 0 0)) from below_set (below_set HB.out HG5.out) HG5.out)
  generalize (w5.setCell ⟨g5, 0, none⟩ (.int .i64 v)).setCell ⟨g5, 1, none⟩ (.slice none 0 0) = w6 at HO B4 HB ⊢
  clear hc20 hc21 hc50 hc51 hf50 hf51 B5 B2 hn25 hn52 HN2
  go_loopw [14] (fun v14 wr => ∃ i : Nat, i ≤ l.length ∧ v14 = .int .i64 i ∧ Aside0 (EOut w wr g5 v ((l.map (ren tt c)).take i)) ∧ Aside0 (Below w.heap.size w wr) ∧ Aside0 (wr.heap[g4]? = some (.cells #[.int .i64 0, .slice none 0 0] 25 (0, 0)))) (fun v14 _ => l.length - (intOf v14).toNat)
  case atStart => exact ⟨0, Nat.zero_le _, rfl, HO, HB, B4⟩
  case round =>
    clear HO HB B4
    obtain ⟨i, hi, rfl, HO, HB, B4⟩ := hrel
    by_cases hlt : i < l.length
    · have hkd : decide ((i : Int) < (l.length : Int)) = true := decide_eq_true (by omega)
      have hkd2 : decide (i < l.length) = true := decide_eq_true hlt
      obtain ⟨ad, A8, c8, e8, hx8, hl8, hC8⟩ := at_L1 (Kd.C_below HCL.out HB.out) (i : Int) (by omega) (by omega)
      cases e8
      have hok := HRW.out i hlt
      have HMT := ak (show (l.map (ren tt c)).take (i + 1) = (l.map (ren tt c)).take i ++ [ren tt c (rd_L1 l (i : Int))] by
        rw [List.take_succ_eq_append_getElem (by simpa using hlt)]
        simp [rd_L1, List.getD_eq_getElem?_getD, List.getElem?_eq_getElem hlt])
      obtain ⟨row, hrow⟩ : ∃ row, rd_L1 l (i : Int) = row := ⟨_, rfl⟩
      rw [hrow] at hx8 hl8 hC8 hok HMT
      rw [Int.toNat_natCast] at hx8
      have HOK := ak hok
      have HC8 := ak hC8
      have HL8 := ak hl8
      clear hrow hok hC8 hl8
      go_wp2
      clear hx8 hkd hkd2
      obtain ⟨vo, hb5, hS5⟩ := HO.out
      have B5 := ak hb5
      have HS5 := ak hS5
      clear hb5 hS5 HO
      refine sS (n := 10) (S := fun w' => w'.cell? ⟨g5, 1, none⟩ = some vo) (ds := [9]) ((blk_cell B5.out 1).trans rfl) (fun hHeld => ?_); refine with_tabW each.tab5 each.bits5 (fun HT_ HW_ => ?_)
      have HD := ak (show Below wr.heap.size wr wr.drew from below_drew1 (Below.refl _ _))
      generalize wr.drew = w7 at HD hHeld ⊢
      refine pS 0 18 10 1 ?_
      refine tS 1 19 10 3 ?_
      refine pS 2 20 10 7 ?_
      refine pS 3 21 10 15 ?_
      refine one_ (i := 4) (N := some 22) (ba 10 31) rfl rfl (one_of HT_.out (by kernel_rfl)) (by decide) (fun K hK => ?_)
      refine gC Try.func7 #[.slice A8 row.length c8] ?_
      refine (slices_Clone_int_int.calls A8 c8 row row w7 (Kd.C_below HC8.out HD.out) HL8.out (clone_f9 row (by have := HOK.out.hl; omega))).mono ?_
      rintro e w8 ⟨v8, rfl, hr8, hb⟩
      refine ⟨_, rfl, ?_⟩
      have H8 := ak (Kd.R_lower hr8 (below_size HD.out))
      replace HD := ak (below_step HD.out hb)
      clear hb hr8
      refine hK.out _ _ ((blk_cell (blk_below B5.out HD.out) 1).trans rfl) (fun hHeld => ?_)
      clear hK K
      obtain ⟨A9, c9, e9⟩ := Kd.R_slice H8.out
      subst e9
      refine norm_ (a' := ?_) ?_ ?_
      rotate_left
      · show Act.put _ (some 22) _ = _
        simp only [Act.put, List.setIfInBounds_toArray, List.set_cons_zero, List.set_cons_succ, i64_w, i32_w]
        rfl
      refine one_ (i := 5) (N := some 23) (ba 10 63) rfl rfl (one_of HT_.out (by kernel_rfl)) (by decide) (fun K hK => ?_)
      refine each.goesV Try.func26 (by kernel_rfl) rfl #[.slice A9 row.length c9] #[.slice A9 row.length c9, .pointer (some ⟨Bt, 0, none⟩), .pointer (some ⟨Bc, 0, none⟩)] (by rfl) rfl rfl (by rfl) rfl (by first | done | rfl | ((try simp only [List.map_toArray, List.map_cons, List.map_nil]); rfl)) ?_
      refine (ren26_calls tt c row HOK.out Bt Bc At ct A9 c9 wr w8 (pw_cell_below (below_step HB.out HD.out) HTO.out) (pw_cell_below (below_step HB.out HD.out) HC.out) (Kd.C_below HCT.out (below_step HB.out HD.out)) HD.out H8.out).mono ?_
      rintro e w9 ⟨rfl, hr9, hb⟩
      refine ⟨_, rfl, ?_⟩
      have H9 := ak hr9
      replace HD := ak hb
      clear hb hr9 H8
      refine hK.out _ _ ((blk_cell (blk_below B5.out HD.out) 1).trans rfl) (fun hHeld => ?_)
      clear hK K
      refine norm_ (a' := ?_) ?_ ?_
      rotate_left
      · show Act.put _ (some 23) _ = _
        simp only [Act.put, List.setIfInBounds_toArray, List.set_cons_zero, List.set_cons_succ, i64_w, i32_w]
        rfl
      refine one_ (i := 6) (N := some 24) (ba 10 127) rfl rfl (one_of HT_.out (by kernel_rfl)) (by decide) (fun K hK => ?_)
      refine value_ (w1 := ?_) (v := ?_) (by rfl) rfl ?_ ?_
      rotate_left 2
      · go_simp
        constructor
        · rfl
        · rfl
      refine hK.out _ _ ((blk_cell (blk_alloc (blk_below B5.out HD.out) _) 1).trans rfl) (fun hHeld => ?_)
      clear hK K
      refine norm_ (a' := ?_) ?_ ?_
      rotate_left
      · show Act.put _ (some 24) _ = _
        simp only [Act.put, List.setIfInBounds_toArray, List.set_cons_zero, List.set_cons_succ, i64_w, i32_w]
        rfl
      have HO9 := ak (show Kd.S (Kd.slice 3 (Kd.int .i64)) 22 w9 w.heap.size (fun k => True ∧ ¬ wr.heap.size ≤ k) vo ((l.map (ren tt c)).take i) from Kd.S_below (Kd.S_mono (Kd.S_bound HS5.out) (fun k hk => ⟨trivial, by omega⟩)) HD.out)
      have HBS := ak (below_size HD.out)
      have hlt5 : g5 < wr.heap.size := blk_lt B5.out
      refine one_ (i := 7) (N := some 25) (ba 10 255) rfl rfl (one_of HT_.out (by kernel_rfl)) (by decide) (fun K hK => ?_)
      refine Kd.S_append_step (Kd.slice 3 (Kd.int .i64)) (w0 := w) w.heap.size (by rfl) (.tmp 19) (.tmp 24) 23 22 (.slice none 0 0) 24 rfl Try.underlying23 info22 rfl (by decide) (by omega) vo ((l.map (ren tt c)).take i) (ren tt c row) [.slice A9 row.length c9] (fun _ => True) (fun k => wr.heap.size ≤ k) rfl rfl ?aP ?aK (fun _ _ => trivial) HO9.out ?aB ?aS ?aL ?_
      case aP => exact ⟨_, rfl, Kd.R_lower (Kd.R_mono (Kd.R_bound H9.out) (fun k hk => hk.2.1)) (below_size HB.out)⟩
      case aK => exact fun k hk => ⟨trivial, fun e => by obtain ⟨_, hown⟩ := Kd.S_own HS5.out; have := own_lt hown k e.symm; omega⟩
      case aB => exact below_step HB.out HD.out
      case aS => exact Nat.le_trans (below_size HB.out) HBS.out
      case aL => rw [List.length_take, List.length_map]; omega
      intro v10 w10 hS10 hb10 hg10 hat10
      have HS10 := ak hS10
      have HB10 := ak hb10
      have B510 := ak (blk_grown (g := g5) (o := .cells #[.int .i64 v, vo] 25 (0, 0)) (blk_below B5.out HD.out) hg10 (Kd.S_ne HS5.out B5.out (by decide)))
      have B410 := ak (blk_grown (g := g4) (o := .cells #[.int .i64 0, .slice none 0 0] 25 (0, 0)) (blk_below B4.out HD.out) hg10 (Kd.S_ne HS5.out B4.out (by decide)))
      clear hS10 hb10 hg10 hat10
      refine hK.out _ _ ((blk_cell B510.out 1).trans rfl) (fun hHeld => ?_)
      clear hK K
      obtain ⟨A10, c10, e10⟩ := Kd.S_slice HS10.out
      rw [show ((l.map (ren tt c)).take i ++ [ren tt c row]).length = i + 1 by rw [List.length_append, List.length_take, List.length_map, List.length_singleton]; omega] at e10
      subst e10
      refine norm_ (a' := ?_) ?_ ?_
      rotate_left
      · show Act.put _ (some 25) _ = _
        simp only [Act.put, List.setIfInBounds_toArray, List.set_cons_zero, List.set_cons_succ, i64_w, i32_w]
        rfl
      refine pS 8 26 10 511 ?_
      have hcb : w10.cell? ⟨g5, 1, none⟩ = some vo := (blk_cell B510.out 1).trans rfl
      have hfb := blk_frozen B510.out 1
      refine last_ (i := 9) (N := none) (ba 10 1023) rfl rfl (one_of HT_.out (by kernel_rfl)) (by decide) (fun K hK => ?_)
      refine skip_ (w1 := w10.setCell ⟨g5, 1, none⟩ (.slice A10 (i + 1) c10)) (by rfl) rfl (by go_simp) ?_
      refine hK.out _ _ ?_
      clear hK K
      refine done_ (done_of HT_.out (by kernel_rfl)) ?_
      try go_wp2
      go_roundw
      case rel => exact ⟨i + 1, by omega, by go_num, ⟨by rw [HMT.out]; exact ⟨_, blk_put B510.out 1 _ rfl, Kd.S_set HS10.out B510.out (by decide) 1 _⟩⟩, ⟨below_set HB10.out HG5.out⟩, ⟨blk_far B410.out HNE.out _⟩⟩
      case measure => simp [intOf]; omega
    · have hkd : decide ((i : Int) < (l.length : Int)) = false := decide_eq_false (by omega)
      have hkd2 : decide (i < l.length) = false := decide_eq_false hlt
      have hO := HO.out
      rw [show i = l.length by omega, List.take_of_length_le (by simp)] at hO
      obtain ⟨M, hM⟩ : ∃ M, l.map (ren tt c) = M := ⟨_, rfl⟩
      rw [hM] at hO
      have HM := ak hM
      clear hM
      obtain ⟨vo, hb5, hS5⟩ := hO
      have B5 := ak hb5
      have HS5 := ak hS5
      obtain ⟨A5, c5, e5⟩ := Kd.S_slice hS5
      subst e5
      have x50 : wr.cell? ⟨g5, 0, none⟩ = some (.int .i64 v) := bc B5 0
      have x51 : wr.cell? ⟨g5, 1, none⟩ = some (.slice A5 M.length c5) := bc B5 1
      have x40 : wr.cell? ⟨g4, 0, none⟩ = some (.int .i64 0) := bc B4 0
      have x41 : wr.cell? ⟨g4, 1, none⟩ = some (.slice none 0 0) := bc B4 1
      have f40 := fz B4 0
      have f41 := fz B4 1
      have hn45 := HNE.out
      have hn54 := fun h => HNE.out (Eq.symm h)
      clear hb5 hS5 HO
      go_wp2
      have HE5 := ak (Kd.S_set (Kd.S_set HS5.out B4.out (by decide) 0 (.int .i64 v)) (blk_put B4.out 0 (.int .i64 v) rfl) (by decide) 1 (.slice A5 M.length c5))
      obtain ⟨d0, d1⟩ := two_cells9 wr g4 x40 x41 (.int .i64 v) (.slice A5 M.length c5)
      refine bodyPost_ret (v := .agg #[.int .i64 v, .slice A5 M.length c5]) (by simp [results, Try.results25, go_sem, d0, d1]) rfl ?_
      refine ⟨_, rfl, ?_, below_set (below_set HB.out HG4.out) HG4.out⟩
      rw [HM.out]
      exact HE5.out
namespace X
def xEach.f (v : Int) (l : List (List Int)) (tt : List Int) (c : Int) : Option (Int × List (List Int)) := if l.length ≤ 100 ∧ (∀ row ∈ l, 0 ≤ c ∧ c < row.length ∧ 0 ≤ rd row c ∧ rd row c < tt.length ∧ row.length ≤ 100) then some (v, l.map (ren tt c)) else none
theorem xEach.calls (Bt Bc : Nat) (a0_0 : Int) (A0_1 : Option Addr) (c0_1 : Nat) (l0_1 : List (List Int)) (A1 : Option Addr) (c1 : Nat) (l1 : List Int) (a2 : Int) (r1 : Int) (r2 : List (List Int)) (w : World) (hr0 : Kd.C (Kd.slice 3 (Kd.int .i64)) w A0_1 l0_1.length l0_1) (hc0 : l0_1.length ≤ c0_1) (hr1 : Kd.C (Kd.int .i64) w A1 l1.length l1) (hc1 : l1.length ≤ c1)
    (hto : w.cell? ⟨Bt, 0, none⟩ = some (.slice A1 l1.length c1)) (hcc : w.cell? ⟨Bc, 0, none⟩ = some (.int .i64 a2)) (h : xEach.f a0_0 l0_1 l1 a2 = some (r1, r2)) :
    Calls Try.prog 25 #[.agg #[.int .i64 a0_0, .slice A0_1 l0_1.length c0_1], .func (.func 26) #[] #[.pointer (some ⟨Bt, 0, none⟩), .pointer (some ⟨Bc, 0, none⟩)]] w fun e w' => ∃ v1_ : Value, e = .returned (.agg #[.int .i64 r1, v1_]) ∧ Kd.S (Kd.slice 3 (Kd.int .i64)) 22 w' w.heap.size (fun _ => True) v1_ r2 ∧ Below w.heap.size w w' := by
  unfold xEach.f at h
  split at h
  · rename_i hh
    obtain ⟨hl, hall⟩ := hh
    injection h with h
    injection h with h1 h2
    subst h1 h2
    exact each_calls a0_0 l0_1 l1 a2 hl (fun i hi => by
      have hm : rd_L1 l0_1 (i : Int) ∈ l0_1 := by
        simp only [rd_L1, Int.toNat_natCast, List.getD_eq_getElem?_getD]
        rw [List.getElem?_eq_getElem hi]
        exact List.getElem_mem _
      obtain ⟨b0, b1, b2, b3, b4⟩ := hall _ hm
      exact ⟨b0, b1, b2, b3, b4⟩) Bt Bc A1 c1 A0_1 c0_1 w hto hcc hr1 hr0 hc0
  · cases h
end X
end Go.Proofs.Ytkieehjpnjplmaa
