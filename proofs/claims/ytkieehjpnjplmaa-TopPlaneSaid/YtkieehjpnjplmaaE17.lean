/- The walk of Spreads and of its closure that calls itself: all rising lists of triples without a common player that hold all nine. -/
import Derived.Test.YtkieehjpnjplmaaE16
import Derived.Test.YtkieehjpnjplmaaXG1a
import Derived.Deep.RegionLawGrows
namespace Go.Proofs.Ytkieehjpnjplmaa
open Go Go.Proofs Go.RowKit Go.Proofs.Ytkieehjpnjplmaa.X Go.Proofs.YtkieehjpnjplmaaW.PrintWords Go.Proofs.YtkieehjpnjplmaaW.PrintLast Go.Proofs.YtkieehjpnjplmaaW.PrintMore
set_option linter.unusedVariables false
set_option linter.unusedSimpArgs false
/-- the players of a triple, as bits -/
def setm (t : S39) : Int := Go.bits .or .i64 (Go.bits .or .i64 (shl .i64 1 t.f0) (shl .i64 1 t.f1)) (shl .i64 1 t.f2)
/-- what the loop over the triples from the d-th last on appends -/
def lpS (l : List S39) : Nat → Int → List Int → List (List Int)
  | 0, _, _ => []
  | d + 1, p, ch => (if Go.bits .and .i64 (setm (rd_T39 l ((l.length - (d + 1) : Nat) : Int))) p = 0 then
      (if Go.bits .or .i64 p (setm (rd_T39 l ((l.length - (d + 1) : Nat) : Int))) = 511 then [ch ++ [((l.length - (d + 1) : Nat) : Int)]] else lpS l d (Go.bits .or .i64 p (setm (rd_T39 l ((l.length - (d + 1) : Nat) : Int)))) (ch ++ [((l.length - (d + 1) : Nat) : Int)])) else []) ++ lpS l d p ch
def gS (l : List S39) (d : Nat) (p : Int) (ch : List Int) : List (List Int) := if p = 511 then [ch] else lpS l d p ch
theorem lpS_succ (l : List S39) (d i : Nat) (hi : i + (d + 1) = l.length) (p : Int) (ch : List Int) :
    lpS l (d + 1) p ch = (if Go.bits .and .i64 (setm (rd_T39 l (i : Int))) p = 0 then gS l d (Go.bits .or .i64 p (setm (rd_T39 l (i : Int)))) (ch ++ [(i : Int)]) else []) ++ lpS l d p ch := by
  rw [lpS, show l.length - (d + 1) = i by omega]
  rfl
theorem lpS_len (l : List S39) : ∀ (d : Nat) (p : Int) (ch : List Int), (lpS l d p ch).length + 1 ≤ 2 ^ d := by
  intro d
  induction d with
  | zero => intro p ch; simp [lpS]
  | succ d ih =>
    intro p ch
    rw [lpS, List.length_append, Nat.pow_succ]
    have h1 := ih p ch
    have h2 : ∀ (b : Prop) [Decidable b] (x : List (List Int)), x.length ≤ 2 ^ d → (if b then x else []).length ≤ 2 ^ d := fun b _ x hx => by split; exact hx; simp
    have h3 : (if Go.bits .and .i64 (setm (rd_T39 l ((l.length - (d + 1) : Nat) : Int))) p = 0 then
      (if Go.bits .or .i64 p (setm (rd_T39 l ((l.length - (d + 1) : Nat) : Int))) = 511 then [ch ++ [((l.length - (d + 1) : Nat) : Int)]] else lpS l d (Go.bits .or .i64 p (setm (rd_T39 l ((l.length - (d + 1) : Nat) : Int)))) (ch ++ [((l.length - (d + 1) : Nat) : Int)])) else []).length ≤ 2 ^ d := by
      refine h2 _ _ ?_
      split
      · simp; exact Nat.one_le_two_pow
      · have := ih (Go.bits .or .i64 p (setm (rd_T39 l ((l.length - (d + 1) : Nat) : Int)))) (ch ++ [((l.length - (d + 1) : Nat) : Int)]); omega
    omega
theorem gS_len (l : List S39) (d : Nat) (p : Int) (ch : List Int) : (gS l d p ch).length ≤ 2 ^ d := by
  unfold gS
  split
  · simp; exact Nat.one_le_two_pow
  · have := lpS_len l d p ch; omega
/-- what a call of the closure may write: the box of what is found, and rows of rows -/
def Tk (Bo : Nat) (w : World) (k : Nat) : Prop := k = Bo ∨ ∃ cs, w.heap[k]? = some (.cells cs 22 (0, 0))
theorem Kt_trans {w W W2 : World} {Bo : Nat} (h : Kept w W (Tk Bo w)) (k : Kept W W2 (Tk Bo W)) : Kept w W2 (Tk Bo w) := h.then_ k (fun j hj => by
  by_cases hs : Tk Bo w j
  · exact .inl hs
  · by_cases hlt : j < w.heap.size
    · have := h.2 j hlt hs
      rcases hj with hj | ⟨cs, hc⟩
      · exact absurd (.inl hj) hs
      · exact absurd (.inr ⟨cs, by rw [← this]; exact hc⟩) hs
    · right; omega)
structure Env (Bv Bl Bg : Nat) (f va : Value) (w : World) : Prop where
  hv : w.heap[Bv]? = some (.cells #[.int .i64 9] 3 (0, 0))
  hl : w.heap[Bl]? = some (.cells #[va] 37 (0, 0))
  hg : w.heap[Bg]? = some (.cells #[f] 64 (0, 0))
def OutS (w0 w : World) (Bo : Nat) (L : List (List Int)) : Prop := ∃ vo, w.heap[Bo]? = some (.cells #[vo] 23 (0, 0)) ∧ Kd.S (Kd.slice 3 (Kd.int .i64)) 22 w w0.heap.size (fun _ => True) vo L
theorem OutS.below {w0 w w' : World} {Bo : Nat} {L : List (List Int)} (h : OutS w0 w Bo L) (hb : Below w.heap.size w w') : OutS w0 w' Bo L := by
  obtain ⟨vo, h1, h2⟩ := h
  exact ⟨vo, blk_below h1 hb, Kd.S_below h2 hb⟩
theorem Tk_of {Bo : Nat} {w w0 : World} {L : List (List Int)} (h : OutS w0 w Bo L) {k : Nat} {cs : Array Value} {t : TypeId} (hk : w.heap[k]? = some (.cells cs t (0, 0))) (h1 : t ≠ 22) (h2 : t ≠ 23) : ¬ Tk Bo w k := by
  rintro (rfl | ⟨cs', hc⟩)
  · obtain ⟨vo, h3, _⟩ := h
    rw [h3] at hk
    injection hk with hk
    injection hk with _ hk
    exact h2 hk.symm
  · rw [hc] at hk
    injection hk with hk
    injection hk with _ hk
    exact h1 hk.symm
theorem Env.kept {Bv Bl Bg Bo : Nat} {f va : Value} {w W w0 : World} {L : List (List Int)} (h : Env Bv Bl Bg f va w) (ho : OutS w0 w Bo L) (hk : Kept w W (Tk Bo w)) : Env Bv Bl Bg f va W :=
  ⟨blk_kept h.hv hk (Tk_of ho h.hv (by decide) (by decide)), blk_kept h.hl hk (Tk_of ho h.hl (by decide) (by decide)), blk_kept h.hg hk (Tk_of ho h.hg (by decide) (by decide))⟩
theorem Env.below {Bv Bl Bg : Nat} {f va : Value} {w W : World} (h : Env Bv Bl Bg f va w) (hb : Below w.heap.size w W) : Env Bv Bl Bg f va W := ⟨blk_below h.hv hb, blk_below h.hl hb, blk_below h.hg hb⟩
theorem ch_kept {w W w0 : World} {base Bo : Nat} {v : Value} {xs : List Int} {L : List (List Int)} (h : Kd.R (Kd.int .i64) 3 w base (fun _ => True) v xs) (ho : OutS w0 w Bo L) (hk : Kept w W (Tk Bo w)) : Kd.R (Kd.int .i64) 3 W base (fun _ => True) v xs := by
  refine Kd.R_mono (Kd.R_kept (Kd.R_bound h) hk (fun j hj => ?_)) (fun _ _ => trivial)
  obtain ⟨_, _, _, q, hq, cells, hc⟩ := hj
  have hq3 : q = 3 := by simpa [Kd.int, Kd.scalar] using hq
  subst hq3
  exact Tk_of ho hc (by decide) (by decide)
def grwV (Bv Bo Bl Bg : Nat) : Value := .func (.func 34) #[] #[.pointer (some ⟨Bv, 0, none⟩), .pointer (some ⟨Bo, 0, none⟩), .pointer (some ⟨Bl, 0, none⟩), .pointer (some ⟨Bg, 0, none⟩)]
theorem grw.goesV {P : Program} {ops : Array Oper} {Q : Exit → Act → World → Prop} {oi : Oper} {N : Option Tmp} {a : Act} {w : World} {K : Act → World → Prop} {f : FuncId} {fn : Func} {t : Operand} {ars : Array Operand} {ts : Array TypeId} {cap : Array Value} (hf : P.funcs[f]? = some fn) (hname : (fn.name == "runtime.NumGoroutine") = false) (hb : fn.body.isSome = true) (args0 args : Array Value)
    (hw : Region.wanted oi (yielded ops a.tmps) = true) (hN : oi.dst = N) (hop : oi.op = .call { callee := .value t, args := ars, argTypes := ts }) (hv : a.eval t = .func (.func f) #[] cap) (hcap : args0 ++ cap = args) (hargs : ars.map a.eval = args0)
    (h : Calls P f args w fun e w' => ∃ v, e = .returned v ∧ K (a.put N v) w') : if Region.wanted oi (yielded ops a.tmps) = true then Oper.wp P oi a w K Q else K (a.put N undef) w := by
  refine call_ f args hw hN ?_ h
  have he := enters_ hf hname hb args w
  unfold execOp
  simp [hop, resolve, Deferred.ofValue, invoke, hv, hargs, hcap, he]
theorem grow_olds {w : World} {base n c : Nat} {ok : Nat → Prop} {A : Option Addr} {p : List Int} (h : Kd.R (Kd.int .i64) 3 w base ok (.slice A n c) p) :
    (A = none → p.length = 0 ∧ c = 0) ∧ ∀ b, A = some b → ∀ j u, (encs (Value.int .i64) p)[j]? = some u → w.cell? (b.add j) = some u := by
  have ho := Kd.own_of_R h
  refine ⟨fun e => ?_, fun b e => ?_⟩
  · subst e
    rcases ho.2 with ⟨hv, h0⟩ | ⟨g, cap, cur, hv, _⟩
    · injection hv with _ _ hc
      exact ⟨h0, hc⟩
    · cases hv
  · subst e
    rcases ho.2 with ⟨hv, _⟩ | ⟨g, cap, cur, hv, _⟩
    · cases hv
    · injection hv with hb _ _
      injection hb with hb
      subst hb
      exact ho.cells rfl
theorem grow_new {w w' : World} {base : Nat} {v : Value} {p : List Int} {x : Int} (hb : base ≤ w.heap.size) (ho : w'.ownsRow w.heap.size 3 1 v (p.length + 1) (encs (Value.int .i64) p ++ [.int .i64 x])) : Kd.R (Kd.int .i64) 3 w' base (fun _ => True) v (p ++ [x]) := by
  refine Kd.R_lower (Kd.R_of_own ?_ (fun _ _ => trivial)) hb
  rw [List.length_append, List.length_singleton, show encs (Value.int .i64) (p ++ [x]) = encs (Value.int .i64) p ++ [.int .i64 x] by simp [encs]]
  exact ho
def grw.T1 : Bool × List (List Nat × List Nat) := (true,  [([], []), ([], []), ([1], [1]), ([2], [2]), ([0, 3, 2], [0, 3]), ([4, 4, 0, 1, 2, 3, 4], [4])])
def grw.B1 : List Nat := [0, 0, 2, 6, 15, 31]
theorem grw.tab1 : rtab .any (opsOf Try.f34 1) = grw.T1 := by kernel_rfl
theorem grw.bits1 : waitsOk grw.T1.2 grw.B1 = true := by kernel_rfl
def grw.T7 : Bool × List (List Nat × List Nat) := (true,  [([], []), ([], []), ([1], [1]), ([], []), ([], []), ([3, 4], [3, 4]), ([], []), ([], []), ([7], [7]), ([], []), ([9], [9]), ([6, 8, 10], [6, 8, 10]), ([], []), ([12], [12]), ([11, 13], [11, 13]), ([0, 2, 5, 14, 14], [0, 2, 5, 14])])
def grw.B7 : List Nat := [0, 0, 2, 0, 0, 24, 0, 0, 128, 0, 512, 1984, 0, 4096, 16320, 32767]
theorem grw.tab7 : rtab .any (opsOf Try.f34 7) = grw.T7 := by kernel_rfl
theorem grw.bits7 : waitsOk grw.T7.2 grw.B7 = true := by kernel_rfl
theorem clone_f (l : List Int) (h : l.length ≤ 1000) : slices_Clone_int_int.f l = some l := by simp [slices_Clone_int_int.f]; omega
set_option maxHeartbeats 8000000 in
set_option maxRecDepth 100000 in
theorem grow_end (w0 : World) (Bv Bo Bl Bg : Nat) (va : Value) (hBo : w0.heap.size ≤ Bo) (fr : Nat) (ch : List Int) (Ap : Option Addr) (cp : Nat) (L : List (List Int)) (w : World) (hL : L.length ≤ 5000) (hn : ch.length ≤ 1000) (henv : Env Bv Bl Bg (grwV Bv Bo Bl Bg) va w) (hout : OutS w0 w Bo L) (hB : Below w0.heap.size w0 w)
    (hch : Kd.R (Kd.int .i64) 3 w w0.heap.size (fun _ => True) (.slice Ap ch.length cp) ch) :
    Calls Try.prog 34 #[.int .i64 fr, .int .i64 511, .slice Ap ch.length cp, .pointer (some ⟨Bv, 0, none⟩), .pointer (some ⟨Bo, 0, none⟩), .pointer (some ⟨Bl, 0, none⟩), .pointer (some ⟨Bg, 0, none⟩)] w fun e w' =>
      e = .returned (.tuple #[]) ∧ OutS w0 w' Bo (L ++ [ch]) ∧ Below w0.heap.size w0 w' ∧ Kept w w' (Tk Bo w) := by
  have HE := ak henv
  have HN := ak hn
  clear hn
  have HO := ak hout
  have HBB := ak hB
  have HCH := ak hch
  obtain ⟨vo, ho1, ho2⟩ := hout
  have HO1 := ak ho1
  have HO2 := ak ho2
  have hcv : w.cell? ⟨Bv, 0, none⟩ = some (.int .i64 9) := (blk_cell henv.hv 0).trans rfl
  clear henv hB hch ho1 ho2
  go_enter Try.func34, Try.ntmps34
  go_wp2
  rename_i K2 h2
  have hKK := ak h2
  clear h2
  have hcl := ak (fun (W : World) (hb : Below w.heap.size w W) => slices_Clone_int_int.calls Ap cp ch ch W (Kd.C_below (Kd.R_reads' HCH.out).2.2 hb) (Kd.R_reads' HCH.out).2.1 (clone_f ch HN.out))
  refine sS (n := 6) (S := fun w' => w'.cell? ⟨Bo, 0, none⟩ = some vo) (ds := [5]) ((blk_cell HO1.out 0).trans rfl) (fun hHeld => ?_); refine with_tabW grw.tab1 grw.bits1 (fun HT_ HW_ => ?_)
  have HB := ak (show Below w.heap.size w w.drew from below_drew1 (Below.refl _ _))
  generalize w.drew = w5 at HB hHeld ⊢
  refine tS 0 17 6 1 ?_
  refine pS 1 18 6 3 ?_
  refine one_ (i := 2) (N := some 19) (ba 6 7) rfl rfl (one_of HT_.out (by kernel_rfl)) (by decide) (fun K hK => ?_)
  refine gC Try.func7 #[.slice Ap ch.length cp] ?_
  refine (hcl.out _ HB.out).mono ?_
  rintro e w6 ⟨v6, rfl, hr6, hb⟩
  refine ⟨_, rfl, ?_⟩
  have H6 := ak (Kd.R_lower hr6 (below_size HB.out))
  replace HB := ak (below_step HB.out hb)
  clear hb hr6
  refine hK.out _ _ ((blk_cell (blk_below HO1.out HB.out) 0).trans rfl) (fun hHeld => ?_)
  clear hK K
  obtain ⟨A6, c6, e6⟩ := Kd.R_slice H6.out
  subst e6
  refine norm_ (a' := ?_) ?_ ?_
  rotate_left
  · show Act.put _ (some 19) _ = _
    simp only [Act.put, List.setIfInBounds_toArray, List.set_cons_zero, List.set_cons_succ, i64_w, i32_w]
    rfl
  refine one_ (i := 3) (N := some 20) (ba 6 15) rfl rfl (one_of HT_.out (by kernel_rfl)) (by decide) (fun K hK => ?_)
  refine value_ (w1 := ?_) (v := ?_) (by rfl) rfl ?_ ?_
  rotate_left 2
  · go_simp
    constructor
    · rfl
    · rfl
  refine hK.out _ _ ((blk_cell (blk_alloc (blk_below HO1.out HB.out) _) 0).trans rfl) (fun hHeld => ?_)
  clear hK K
  refine norm_ (a' := ?_) ?_ ?_
  rotate_left
  · show Act.put _ (some 20) _ = _
    simp only [Act.put, List.setIfInBounds_toArray, List.set_cons_zero, List.set_cons_succ, i64_w, i32_w]
    rfl
  have HO6 := ak (show Kd.S (Kd.slice 3 (Kd.int .i64)) 22 w6 w0.heap.size (fun k => True ∧ ¬ w.heap.size ≤ k) vo L from Kd.S_below (Kd.S_mono (Kd.S_bound HO2.out) (fun k hk => ⟨trivial, by omega⟩)) HB.out)
  have HBS := ak (below_size HB.out)
  have hlt6 : Bo < w.heap.size := blk_lt HO1.out
  refine one_ (i := 4) (N := some 21) (ba 6 31) rfl rfl (one_of HT_.out (by kernel_rfl)) (by decide) (fun K hK => ?_)
  refine Kd.S_append_step (Kd.slice 3 (Kd.int .i64)) (w0 := w0) w0.heap.size (by rfl) (.tmp 17) (.tmp 20) 23 22 (.slice none 0 0) 24 rfl Try.underlying23 info22 rfl (by decide) (by omega) vo L ch [.slice A6 ch.length c6] (fun _ => True) (fun k => w.heap.size ≤ k) rfl rfl ?aP ?aK (fun _ _ => trivial) HO6.out ?aB ?aS ?aL ?_
  case aP => exact ⟨_, rfl, Kd.R_lower (Kd.R_mono (Kd.R_bound H6.out) (fun k hk => hk.2.1)) (below_size HBB.out)⟩
  case aK => exact fun k hk => ⟨trivial, fun e => by obtain ⟨_, hown⟩ := Kd.S_own HO2.out; have := own_lt hown k e.symm; omega⟩
  case aB => exact below_step HBB.out HB.out
  case aS => exact Nat.le_trans (below_size HBB.out) HBS.out
  case aL => omega
  intro v7 w7 hR7 hb7 hg7 hat7
  have HR7 := ak hR7
  have HB7 := ak hb7
  have hbx := blk_grown (g := Bo) (o := .cells #[vo] 23 (0, 0)) (blk_below HO1.out HB.out) hg7 (Kd.S_ne HO2.out HO1.out (by decide))
  have HBX := ak hbx
  have HK := ak (show Kept w w7 (Tk Bo w) from Kept.of_grown hg7 (Kept.of_below HB.out _) (fun k hk => by
    obtain ⟨_, hown⟩ := Kd.S_own HO2.out
    obtain ⟨cells, hc⟩ := own_typed hown k hk
    exact .inl (.inr ⟨cells, hc⟩)))
  clear hR7 hb7 hg7 hat7 hbx
  refine hK.out _ _ ((blk_cell HBX.out 0).trans rfl) (fun hHeld => ?_)
  clear hK K
  have hcb : w7.cell? ⟨Bo, 0, none⟩ = some vo := (blk_cell HBX.out 0).trans rfl
  have hfb := blk_frozen HBX.out 0
  refine norm_ (a' := ?_) ?_ ?_
  rotate_left
  · show Act.put _ (some 21) _ = _
    simp only [Act.put, List.setIfInBounds_toArray, List.set_cons_zero, List.set_cons_succ, i64_w, i32_w]
    rfl
  obtain ⟨A7, c7, e7⟩ := Kd.S_slice HR7.out
  subst e7
  refine last_ (i := 5) (N := none) (ba 6 63) rfl rfl (one_of HT_.out (by kernel_rfl)) (by decide) (fun K hK => ?_)
  refine skip_ (w1 := w7.setCell ⟨Bo, 0, none⟩ (.slice A7 (L ++ [ch]).length c7)) (by rfl) rfl (by go_simp) ?_
  refine hK.out _ _ ?_
  clear hK K
  refine done_ (done_of HT_.out (by kernel_rfl)) ?_
  refine hKK.out _ _ ?_
  clear hKK
  go_wp2
  refine bodyPost_ret (results_none rfl _ _ _) rfl ?_
  refine ⟨rfl, ⟨_, blk_put HBX.out 0 _ rfl, Kd.S_set HR7.out HBX.out (by decide) 0 _⟩, below_set HB7.out hBo, ?_⟩
  exact HK.out.setCell (.inl (.inl rfl)) _
/-- the spellings of 1 << f -/
theorem shl_bits {f : Int} (h0 : 0 ≤ f) (h9 : f < 9) : ∃ j : Int, shl .i64 1 f = j ∧ IntKind.i64.wrap (1 * 2 ^ min f.toNat 64) = j ∧ IntKind.i64.wrap (1 * 2 ^ f.toNat) = j ∧ IntKind.i64.wrap (2 ^ min f.toNat 64) = j ∧ IntKind.i64.wrap (2 ^ f.toNat) = j ∧ wrap64 (1 * 2 ^ min f.toNat 64) = j ∧ wrap64 (1 * 2 ^ f.toNat) = j := by
  refine ⟨_, rfl, ?_⟩
  have : f = 0 ∨ f = 1 ∨ f = 2 ∨ f = 3 ∨ f = 4 ∨ f = 5 ∨ f = 6 ∨ f = 7 ∨ f = 8 := by omega
  rcases this with rfl | rfl | rfl | rfl | rfl | rfl | rfl | rfl | rfl <;> decide +kernel
theorem mask_num {p : Int} : (p == 511) = decide (p = 511) := rfl
set_option maxHeartbeats 16000000 in
set_option maxRecDepth 100000 in
theorem grow34 (w0 : World) (l : List S39) (hl12 : l.length ≤ 12) (hrg : ∀ i : Nat, i < l.length → (0 ≤ (rd_T39 l i).f0 ∧ (rd_T39 l i).f0 < 9) ∧ (0 ≤ (rd_T39 l i).f1 ∧ (rd_T39 l i).f1 < 9) ∧ 0 ≤ (rd_T39 l i).f2 ∧ (rd_T39 l i).f2 < 9) (Bv Bo Bl Bg : Nat) (Al : Option Addr) (cl : Nat) (hC0 : Kd.C k39 w0 Al l.length l) (hBo : w0.heap.size ≤ Bo) :
    ∀ (d fr : Nat) (p : Int) (ch : List Int) (Ap : Option Addr) (cp : Nat) (L : List (List Int)) (w : World), fr + d = l.length → ch.length + d ≤ 12 → L.length + 2 ^ d ≤ 5000 → Env Bv Bl Bg (grwV Bv Bo Bl Bg) (.slice Al l.length cl) w → OutS w0 w Bo L → Below w0.heap.size w0 w → Kd.R (Kd.int .i64) 3 w w0.heap.size (fun _ => True) (.slice Ap ch.length cp) ch →
      Calls Try.prog 34 #[.int .i64 fr, .int .i64 p, .slice Ap ch.length cp, .pointer (some ⟨Bv, 0, none⟩), .pointer (some ⟨Bo, 0, none⟩), .pointer (some ⟨Bl, 0, none⟩), .pointer (some ⟨Bg, 0, none⟩)] w fun e w' =>
        e = .returned (.tuple #[]) ∧ OutS w0 w' Bo (L ++ gS l d p ch) ∧ Below w0.heap.size w0 w' ∧ Kept w w' (Tk Bo w) := by
  intro d
  induction d using Nat.strongRecOn with
  | _ d ih =>
  intro fr p ch Ap cp L w hfd hcd hLd henv hout hB hch
  by_cases hp : p = 511
  · subst hp
    have := Nat.one_le_two_pow (n := d)
    unfold gS
    rw [if_pos rfl]
    exact grow_end w0 Bv Bo Bl Bg _ hBo fr ch Ap cp L w (by omega) (by omega) henv hout hB hch
  have HG := ak (show gS l d p ch = lpS l d p ch by unfold gS; rw [if_neg hp])
  rw [HG.out]
  have c0 : (p == 511) = false := beq_eq_false_iff_ne.mpr hp
  have HE := ak henv
  have HO := ak hout
  have HBB := ak hB
  have HCH := ak hch
  have HIH := ak ih
  have HRG := ak hrg
  have HC0 := ak hC0
  have HL := ak hLd
  have HFD := ak hfd
  have HCD := ak hcd
  have hcv : w.cell? ⟨Bv, 0, none⟩ = some (.int .i64 9) := (blk_cell henv.hv 0).trans rfl
  clear henv hB hch hout ih hrg hC0 hp hLd hcd
  go_enter Try.func34, Try.ntmps34
  go_wp2
  clear hcv c0
  go_loopw [10, 11] (fun v10 v11 wr => ∃ (i : Nat) (dd : Nat) (L' : List (List Int)), i + dd = l.length ∧ fr ≤ i ∧ v10 = .int .i64 i ∧ Aside0 (L' ++ lpS l dd p ch = L ++ lpS l d p ch) ∧ Aside0 (L'.length + 2 ^ dd ≤ 5000) ∧ Aside0 (OutS w0 wr Bo L') ∧ Aside0 (Below w0.heap.size w0 wr) ∧ Aside0 (Kept w wr (Tk Bo w))) (fun v10 _ _ => l.length - (intOf v10).toNat)
  case atStart => exact ⟨fr, d, L, hfd, Nat.le_refl _, rfl, ⟨rfl⟩, HL, HO, HBB, ⟨Kept.refl _ _⟩⟩
  case round =>
    obtain ⟨i, dd, L', hid, hfi, rfl, HS, HL2, HO2, HB2, HK2⟩ := hrel
    have HE2 := ak (HE.out.kept HO.out HK2.out)
    have hcl : wr.cell? ⟨Bl, 0, none⟩ = some (.slice Al l.length cl) := (blk_cell HE2.out.hl 0).trans rfl
    by_cases hlt : i < l.length
    · have hkd : decide ((i : Int) < (l.length : Int)) = true := decide_eq_true (by omega)
      have hkd2 : decide (i < l.length) = true := decide_eq_true hlt
      obtain ⟨ad, e, h0, h1, h2⟩ := at_T39 (Kd.C_below HC0.out HB2.out) (i : Int) (by omega) (by omega)
      cases e
      obtain ⟨⟨a0, a9⟩, ⟨b0, b9⟩, c0, c9⟩ := HRG.out i hlt
      obtain ⟨x, hx⟩ : ∃ x, rd_T39 l (i : Int) = x := ⟨_, rfl⟩
      rw [hx] at h0 h1 h2 a0 a9 b0 b9 c0 c9
      obtain ⟨a, b, c⟩ := x
      have HX := ak hx
      clear hx
      simp only [Int.toNat_natCast] at h0 h1 h2 a0 a9 b0 b9 c0 c9
      obtain ⟨ja, qa1, qa2, qa3, qa4, qa5, qa6, qa7⟩ := shl_bits a0 a9
      obtain ⟨jb, qb1, qb2, qb3, qb4, qb5, qb6, qb7⟩ := shl_bits b0 b9
      obtain ⟨jc, qc1, qc2, qc3, qc4, qc5, qc6, qc7⟩ := shl_bits c0 c9
      have i0 : 0 ≤ (i : Int) := by omega
      have i1 : (i : Int) < (l.length : Int) := by omega
      obtain ⟨dm, rfl⟩ : ∃ dm, dd = dm + 1 := ⟨dd - 1, by omega⟩
      have hls := lpS_succ l dm i (by omega) p ch
      rw [HX.out, show setm ⟨a, b, c⟩ = Go.bits .or .i64 (Go.bits .or .i64 ja jb) jc by unfold setm; rw [qa1, qb1, qc1]] at hls
      have HLS := ak hls
      clear hls
      by_cases hz : Go.bits .and .i64 (Go.bits .or .i64 (Go.bits .or .i64 ja jb) jc) p = 0
      · have cz : (Go.bits .and .i64 (Go.bits .or .i64 (Go.bits .or .i64 ja jb) jc) p == 0) = true := beq_iff_eq.mpr hz
        have HZ := ak hz
        clear hz
        go_wp2
        go_quiet (fail)
        clear hcl h0 h1 h2 qa2 qa3 qa4 qa5 qa6 qa7 qb2 qb3 qb4 qb5 qb6 qb7 qc2 qc3 qc4 qc5 qc6 qc7 qa1 qb1 qc1
        go_wp2
        generalize Go.bits .or .i64 (Go.bits .or .i64 ja jb) jc = sm at *
        have HCH2 := ak (ch_kept HCH.out HO.out HK2.out)
        have hpc := (Kd.R_reads' HCH2.out).2.1
        have hb1 : ch.length ≤ 12 := by have := HCD.out; omega
        clear cz
        refine sS (n := 16) (S := fun w' => w'.cell? ⟨Bg, 0, none⟩ = some (grwV Bv Bo Bl Bg)) (ds := []) ((blk_cell HE2.out.hg 0).trans rfl) (fun hHeld => ?_); refine with_tabW grw.tab7 grw.bits7 (fun HT_ HW_ => ?_)
        have HB := ak (show Below wr.heap.size wr (wr.drewN nq).drew from below_drew1 (pw_below_drewN (Below.refl _ _) _))
        generalize (wr.drewN nq).drew = w5 at HB hHeld ⊢
        refine tS 0 53 16 1 ?_
        refine pS 1 54 16 3 ?_
        have hwi : IntKind.i64.wrap ((i : Int) + 1) = (i : Int) + 1 := by rw [i64_w]; unfold wrap64; omega
        refine pS 2 55 16 7 ?_
        clear hwi
        refine pS 3 56 16 15 ?_
        refine pS 4 57 16 31 ?_
        refine pS 5 58 16 63 ?_
        refine pS 6 59 16 127 ?_
        refine pS 7 60 16 255 ?_
        refine pS 8 61 16 511 ?_
        refine pS 9 62 16 1023 ?_
        refine pS 10 63 16 2047 ?_
        refine pS 11 64 16 4095 ?_
        refine pS 12 65 16 8191 ?_
        refine one_ (i := 13) (N := some 66) (ba 16 16383) rfl rfl (one_of HT_.out (by kernel_rfl)) (by decide) (fun K hK => ?_)
        refine value_ (w1 := ?_) (v := ?_) (by rfl) rfl ?_ ?_
        rotate_left 2
        · go_simp
          constructor
          · rfl
          · rfl
        have hnew : ∀ j u, ([.int .i64 (i : Int)] : List Value)[j]? = some u → (w5.alloc (.cells #[.int .i64 (i : Int)] 3)).cell? ((⟨w5.heap.size, 0, none⟩ : Addr).add j) = some u := World.news_of_block (cs := #[.int .i64 (i : Int)]) (t := 3) (fr := (0, 0)) (heap_alloc_new w5 (.cells #[.int .i64 (i : Int)] 3))
        replace HB := ak (below_alloc HB.out (.cells #[.int .i64 (i : Int)] 3))
        refine hK.out _ _ ((blk_cell (blk_below HE2.out.hg HB.out) 0).trans rfl) (fun hHeld => ?_)
        clear hK K
        refine norm_ (a' := ?_) ?_ ?_
        rotate_left
        · show Act.put _ (some 66) _ = _
          simp only [Act.put, List.setIfInBounds_toArray, List.set_cons_zero, List.set_cons_succ, i64_w, i32_w]
          rfl
        generalize w5.alloc (.cells #[.int .i64 (i : Int)] 3) = w6 at HB hHeld hnew ⊢
        generalize (⟨w5.heap.size, 0, none⟩ : Addr) = ad6 at hnew ⊢
        obtain ⟨t0, hi0, hz0⟩ := Option.map_eq_some_iff.1 info3
        simp only [Prod.mk.injEq] at hz0
        obtain ⟨z0, z1, z2⟩ := hz0
        obtain ⟨ho1, ho2⟩ := grow_olds (Kd.R_below HCH2.out HB.out)
        refine one_ (i := 14) (N := some 67) (ba 16 32767) rfl rfl (one_of HT_.out (by kernel_rfl)) (by decide) (fun K hK => ?_)
        refine step_append_grows rfl (.tmp 64) (.tmp 66) 22 rfl 3 t0 (.int .i64 0) 1 8 Try.underlying22 hi0 z0 z1 z2 rfl (by decide) Ap ch.length ch.length (encs (Value.int .i64) ch) rfl (fun e => ⟨(ho1 e).1, (ho1 e).1⟩) (by simp [encs]) ho2 ad6 1 1 [.int .i64 (i : Int)] rfl rfl hnew (by intro u hu; rw [List.mem_singleton.1 hu]; rfl) (by omega) (by unfold maxLen; omega) (by omega) ?_
        intro v7 w7 hown hgrow
        have hR := grow_new (base := w0.heap.size) (Nat.le_trans (below_size HB2.out) (below_size HB.out)) hown
        replace HB := ak (HB.out.grown hgrow (below_size HB.out) (fun k hk => by cases hk))
        clear hown hgrow ho1 ho2 hnew hi0 z0 z1 z2
        obtain ⟨A7, c7, e7⟩ := Kd.R_slice hR
        subst e7
        have HR7 := ak hR
        clear hR
        refine hK.out _ _ ((blk_cell (blk_below HE2.out.hg HB.out) 0).trans rfl) (fun hHeld => ?_)
        clear hK K
        refine norm_ (a' := ?_) ?_ ?_
        rotate_left
        · show Act.put _ (some 67) _ = _
          simp only [Act.put, List.setIfInBounds_toArray, List.set_cons_zero, List.set_cons_succ, i64_w, i32_w]
          rfl
        have hpw := Nat.pow_succ 2 dm
        have hIH := HIH.out dm (by omega) (i + 1) (Go.bits .or .i64 p sm) (ch ++ [(i : Int)]) A7 c7 L' w7 (by omega) (by have := HCD.out; simp; omega) (by have := HL2.out; omega) (HE2.out.below HB.out) (HO2.out.below HB.out) (below_step HB2.out HB.out) HR7.out
        rw [show ((i + 1 : Nat) : Int) = (i : Int) + 1 by omega] at hIH
        have HI := ak hIH
        clear hIH
        refine one_ (i := 15) (N := some 68) (ba 16 65535) rfl rfl (one_of HT_.out (by kernel_rfl)) (by decide) (fun K hK => ?_)
        refine grw.goesV Try.func34 (by kernel_rfl) rfl #[.int .i64 ((i : Int) + 1), .int .i64 (Go.bits .or .i64 p sm), .slice A7 (ch ++ [(i : Int)]).length c7] #[.int .i64 ((i : Int) + 1), .int .i64 (Go.bits .or .i64 p sm), .slice A7 (ch ++ [(i : Int)]).length c7, .pointer (some ⟨Bv, 0, none⟩), .pointer (some ⟨Bo, 0, none⟩), .pointer (some ⟨Bl, 0, none⟩), .pointer (some ⟨Bg, 0, none⟩)] (by rfl) rfl rfl (by rfl) rfl (by first | done | rfl | ((try simp only [List.map_toArray, List.map_cons, List.map_nil]); rfl)) ?_
        refine (HI.out).mono ?_
        rintro e w8 ⟨rfl, hO8, hB8, hK8⟩
        refine ⟨_, rfl, ?_⟩
        have HO8 := ak hO8
        have HB8 := ak hB8
        have HK8 := ak (Kt_trans HK2.out (Kt_trans (Kept.of_below HB.out (Tk Bo wr)) hK8))
        have HE8 := ak (Env.kept (HE2.out.below HB.out) (HO2.out.below HB.out) hK8)
        have HL8 := ak (show (L' ++ gS l dm (Go.bits .or .i64 p sm) (ch ++ [(i : Int)])).length + 2 ^ dm ≤ 5000 by
          have h1 := gS_len l dm (Go.bits .or .i64 p sm) (ch ++ [(i : Int)])
          have h2 := HL2.out
          rw [List.length_append]; omega)
        have HS8 := ak (show (L' ++ gS l dm (Go.bits .or .i64 p sm) (ch ++ [(i : Int)])) ++ lpS l dm p ch = L ++ lpS l d p ch by
          rw [← HS.out, HLS.out, if_pos HZ.out, List.append_assoc])
        clear hO8 hB8 hK8 HI HR7 hpw HIH
        refine hK.out _ _ ((blk_cell HE8.out.hg 0).trans rfl) (fun hHeld => ?_)
        clear hK K
        refine norm_ (a' := ?_) ?_ ?_
        rotate_left
        · show Act.put _ (some 68) _ = _
          simp only [Act.put, List.setIfInBounds_toArray, List.set_cons_zero, List.set_cons_succ, i64_w, i32_w]
          rfl
        refine done_ (done_of HT_.out (by kernel_rfl)) ?_
        clear hHeld
        try go_wp2
        go_roundw
        case rel => exact ⟨i + 1, dm, _, by omega, by omega, by go_num, HS8, HL8, HO8, HB8, HK8⟩
        case measure => simp [intOf]; omega
      · have cz : (Go.bits .and .i64 (Go.bits .or .i64 (Go.bits .or .i64 ja jb) jc) p == 0) = false := beq_eq_false_iff_ne.mpr hz
        have HZ := ak hz
        clear hz
        go_wp2
        go_quiet (fail)
        clear hcl h0 h1 h2 qa2 qa3 qa4 qa5 qa6 qa7 qb2 qb3 qb4 qb5 qb6 qb7 qc2 qc3 qc4 qc5 qc6 qc7 qa1 qb1 qc1
        go_wp2
        have HB := ak (show Below wr.heap.size wr (wr.drewN nq) from pw_below_drewN (Below.refl _ _) _)
        have hp2 := Nat.pow_succ 2 dm
        go_roundw
        case rel => exact ⟨i + 1, dm, L', by omega, by omega, by go_num, ⟨by rw [← HS.out, HLS.out, if_neg HZ.out]; rfl⟩, ⟨by have := HL2.out; omega⟩, ⟨HO2.out.below HB.out⟩, ⟨below_step HB2.out HB.out⟩, ⟨HK2.out.below HB.out⟩⟩
        case measure => simp [intOf]; omega
    · have hkd : decide ((i : Int) < (l.length : Int)) = false := decide_eq_false (by omega)
      have hkd2 : decide (i < l.length) = false := decide_eq_false hlt
      obtain rfl : dd = 0 := by omega
      go_wp2
      go_end0
      have hs := HS.out
      rw [show lpS l 0 p ch = [] from rfl, List.append_nil] at hs
      rw [← hs]
      exact ⟨rfl, HO2.out, HB2.out, HK2.out⟩
theorem put_func {w : World} {g : Nat} {v : Value} {t : TypeId} (h : w.heap[g]? = some (.cells #[v] t (0, 0))) (fn : Fn) (first cap : Array Value) : (store ⟨g, 0, none⟩ (.func fn first cap)).run Try.prog w = .ok () (w.setCell ⟨g, 0, none⟩ (.func fn first cap)) := by
  rw [run_store Try.prog _ _ _ _ rfl]
  have h1 := (blk_cell h 0).trans (show (#[v] : Array Value)[0]? = some v from rfl)
  have h2 := blk_frozen h 0
  simp [h1, h2]
theorem ne_types {w : World} {a b : Nat} {x y : Array Value} {t u : TypeId} (h : w.heap[a]? = some (.cells x t (0, 0))) (k : w.heap[b]? = some (.cells y u (0, 0))) (hne : t ≠ u) : a ≠ b := by
  rintro rfl
  rw [h] at k
  injection k with k
  injection k with _ k
  exact hne k
namespace X
def xSpreads.f (v : Int) (l : List S39) : Option (List (List Int) × Int) := if v = 9 ∧ (l.length ≤ 12 ∧ goodB l = true) then some (gS l l.length 0 [], 0) else none
set_option maxHeartbeats 4000000 in
set_option maxRecDepth 100000 in
theorem xSpreads.calls (v : Int) (A1 : Option Addr) (c1 : Nat) (l1 : List S39) (r1 : List (List Int)) (r2 : Int) (w : World) (hr1 : Kd.C k39 w A1 l1.length l1) (hc1 : l1.length ≤ c1) (h : xSpreads.f v l1 = some (r1, r2)) :
    Calls Try.prog 17 #[.int .i64 v, .slice A1 l1.length c1] w fun e w' => ∃ v0_ : Value, e = .returned (.tuple #[v0_, .int .i64 r2]) ∧ Kd.S (Kd.slice 3 (Kd.int .i64)) 22 w' w.heap.size (fun _ => True) v0_ r1 ∧ Below w.heap.size w w' := by
  unfold xSpreads.f at h
  split at h
  · rename_i hh
    obtain ⟨rfl, h12, hg⟩ := hh
    injection h with h
    injection h with h1 h2
    subst h1 h2
    have hG := good_of hg
    have HT := ak (fun W (hb : Below w.heap.size w W) => areThrees_calls A1 c1 l1 W (Kd.C_below hr1 hb) hG)
    have HI := ak (fun W => isThreePlayers_calls W)
    have HX := ak (fun (Bv Bo Bl Bg : Nat) (W : World) (hbo : w.heap.size ≤ Bo) (he : Env Bv Bl Bg (grwV Bv Bo Bl Bg) (.slice A1 l1.length c1) W) (ho : OutS w W Bo []) (hb : Below w.heap.size w W) => grow34 w l1 h12 (fun i hi => by have := hG.hb i hi; omega) Bv Bo Bl Bg A1 c1 hr1 hbo l1.length 0 0 [] none 0 [] W (by omega) (by simp; omega) (by have : 2 ^ l1.length ≤ 2 ^ 12 := Nat.pow_le_pow_right (by decide) h12; simp; omega) he ho hb (Kd.R_nil _ _ _ _ _))
    have HB := ak (Below.refl w.heap.size w)
    clear hr1 hg hc1 hG h12
    have hmf : ∀ (fn : Fn) (first cap : Array Value) (w : World), (Instr.makeFunc fn first cap).run Try.prog w = .ok (.func fn first cap) w := fun _ _ _ _ => rfl
    go_enter Try.func17, Try.ntmps17
    go_wp2_with (first
      | ((with_reducible refine gate_dst (N := 2) rfl ?_); refine bE 2 #[.int .i64 9] 3 ?_; intro gv hgv w2 hbox hb; have BV := ak (hbox); replace HB := kH _ hb; clear hb hgv hbox; have hcv : w2.cell? ⟨gv, 0, none⟩ = some (.int .i64 9) := bc BV 0)
      | ((with_reducible refine gate_dst (N := 3) rfl ?_); refine bE 3 #[.slice A1 l1.length c1] 37 ?_; intro gl hgl w3 hbox hb; have BL := ak (hbox); replace BV := kB BV hb; replace HB := kH _ hb; clear hb hgl hbox hcv; have hcv : w3.cell? ⟨gv, 0, none⟩ = some (.int .i64 9) := bc BV 0; have hcl : w3.cell? ⟨gl, 0, none⟩ = some (.slice A1 l1.length c1) := bc BL 0)
      | (go_at_call 32; refine (HI.out _).mono ?_; rintro e w' ⟨rfl, nn, rfl⟩)
      | (go_at_call 33; refine (HT.out _ (hbC _)).mono ?_; rintro e w9 ⟨rfl, hb⟩; replace BV := kB BV hb; replace BL := kB BL hb; replace HB := kH _ hb; clear hb hcv hcl)
      | ((with_reducible refine gate_dst (N := 6) rfl ?_); refine bE 6 #[.slice none 0 0] 23 ?_; intro go_ hgo w6 hbox hb; have BO := ak (hbox); replace BV := kB BV hb; replace BL := kB BL hb; have HGO := kG w hgo; replace HB := kH _ hb; clear hb hgo hbox)
      | ((with_reducible refine gate_dst (N := 7) rfl ?_); refine bE 7 #[.nilFunc] 64 ?_; intro gg hgg w7 hbox hb; have BG := ak (hbox); replace BV := kB BV hb; replace BL := kB BL hb; replace BO := kB BO hb; have HGG := kG w hgg; replace HB := kH _ hb; have hst := put_func BG.out; have hcg : (w7.setCell ⟨gg, 0, none⟩ (grwV gv go_ gl gg)).cell? ⟨gg, 0, none⟩ = some (grwV gv go_ gl gg) := (blk_cell (blk_put BG.out 0 _ rfl) 0).trans rfl; unfold grwV at hcg; clear hb hgg hbox)
      | (go_at_call 34; refine (HX.out gv go_ gl gg _ HGO.out ⟨blk_far BV.out (ne_types BV.out BG.out (by decide)) _, blk_far BL.out (ne_types BL.out BG.out (by decide)) _, blk_put BG.out 0 _ rfl⟩ ⟨_, blk_far BO.out (ne_types BO.out BG.out (by decide)) _, Kd.S_nil _ _ _ _ _⟩ (below_set HB.out HGG.out)).mono ?_; rintro e w8 ⟨rfl, ⟨vo, hb8, hR8⟩, hB8, hK8⟩; have B8 := ak hb8; have R8 := ak hR8; have HB8 := ak hB8; obtain ⟨A8, c8, e8⟩ := Kd.S_slice R8.out; subst e8; have hco : w8.cell? ⟨go_, 0, none⟩ = some (.slice A8 (([] : List (List Int)) ++ gS l1 l1.length 0 []).length c8) := (blk_cell B8.out 0).trans rfl; clear hb8 hR8 hB8 hK8 hst hcg hmf))
    go_ret2
    exact ⟨_, rfl, R8.out, HB8.out⟩
  · cases h
end X
end Go.Proofs.Ytkieehjpnjplmaa
