/- The walk of match's closure: a permutation grown number by number, or nil. -/
import Derived.Test.YtefmafbbnkkpjaaX0
import Derived.Test.YtefmafbbnkkpjaaXG1a
import Derived.Lib.Hide
import Derived.Deep.RegionLawGrows
namespace Go.Proofs.Ytefmafbbnkkpjaa.X
open Go.RowKit Go.Proofs.YtefmafbbnkkpjaaW.PrintWords Go.Proofs.YtefmafbbnkkpjaaW.PrintLast Go.Proofs.YtefmafbbnkkpjaaW.PrintMore
set_option linter.unusedVariables false
set_option linter.unusedSimpArgs false

def nextF (r alt : Option (List Int)) : Option (List Int) := match r with
  | some q => some q
  | none => alt
/-- the columns of one row, from the one at j on -/
def growL (rec : List Int → Int → Option (List Int)) (p : List Int) (used : Int) : List Int → Int → Option (List Int)
  | [], _ => none
  | x :: xs, j => if 0 < x then (if (Go.bits .and .i64 (shr .i64 used j) 1) = 0 then nextF (rec (p ++ [j]) (Go.bits .or .i64 used (shl .i64 1 j))) (growL rec p used xs (j + 1)) else growL rec p used xs (j + 1)) else growL rec p used xs (j + 1)
/-- what is grown, with so many rows to come -/
def growF (l : List (List Int)) : Nat → List Int → Int → Option (List Int)
  | 0, p, _ => some p
  | d + 1, p, used => growL (growF l d) p used (rd_L1 l (p.length : Int)) 0
def GR (w : World) (base : Nat) (v : Value) : Option (List Int) → Prop
  | none => v = .slice none 0 0
  | some q => Kd.R (Kd.int .i64) 3 w base (fun _ => True) v q ∧ q ≠ []
def growV (Bn Bl Bg : Nat) : Value := .func (.func 107) #[] #[.pointer (some ⟨Bn, 0, none⟩), .pointer (some ⟨Bl, 0, none⟩), .pointer (some ⟨Bg, 0, none⟩)]
theorem grow.goesV {P : Program} {ops : Array Oper} {Q : Exit → Act → World → Prop} {oi : Oper} {N : Option Tmp} {a : Act} {w : World} {K : Act → World → Prop} {f : FuncId} {fn : Func} {t : Operand} {ars : Array Operand} {ts : Array TypeId} {cap : Array Value} (hf : P.funcs[f]? = some fn) (hname : (fn.name == "runtime.NumGoroutine") = false) (hb : fn.body.isSome = true) (args0 args : Array Value)
    (hw : Region.wanted oi (yielded ops a.tmps) = true) (hN : oi.dst = N) (hop : oi.op = .call { callee := .value t, args := ars, argTypes := ts }) (hv : a.eval t = .func (.func f) #[] cap) (hcap : args0 ++ cap = args) (hargs : ars.map a.eval = args0)
    (h : Calls P f args w fun e w' => ∃ v, e = .returned v ∧ K (a.put N v) w') : if Region.wanted oi (yielded ops a.tmps) = true then Oper.wp P oi a w K Q else K (a.put N undef) w := by
  refine call_ f args hw hN ?_ h
  have he := enters_ hf hname hb args w
  unfold execOp
  simp [hop, resolve, Deferred.ofValue, invoke, hv, hargs, hcap, he]
def grow.T7 : Bool × List (List Nat × List Nat) := (true, [([], []), ([], []), ([], []), ([2], [2]), ([], []), ([4], [4]), ([1, 3, 5], [1, 3, 5]), ([], []), ([7], [7]), ([6, 8], [6, 8]), ([], []), ([], []), ([11], [11]), ([10, 12], [10, 12]), ([0, 9, 13, 9], [0, 9, 13]), ([14, 14, 0, 1, 2, 3, 4, 5, 6, 7, 8, 9, 10, 11, 12, 13, 14], [14])])
def grow.B7 : List Nat := [0, 0, 0, 4, 0, 16, 62, 0, 128, 510, 0, 0, 2048, 7168, 16383, 32767]
theorem grow.tab7 : rtab .any (opsOf Try.f107 7) = grow.T7 := by kernel_rfl
theorem grow.bits7 : waitsOk grow.T7.2 grow.B7 = true := by kernel_rfl
theorem rdrop (l : List Int) (i : Int) (h0 : 0 ≤ i) (h1 : i < l.length) : l.drop i.toNat = rd l i :: l.drop (i + 1).toNat := by
  obtain ⟨k, rfl⟩ : ∃ k : Nat, i = k := ⟨i.toNat, by omega⟩
  have hk : k < l.length := by omega
  rw [Int.toNat_natCast, show ((k : Int) + 1).toNat = k + 1 by omega, List.drop_eq_getElem_cons hk]
  simp [rd, List.getD_eq_getElem?_getD, List.getElem?_eq_getElem hk]
theorem nileq22 (w : World) (a : Option Addr) (l c : Nat) : (binOp .neq 22 (.slice a l c) (.slice none 0 0)).run Try.prog w = .ok (.bool a.isSome) w := by
  have hh : ∀ d : Nat, (Op.equalIn (d + 1) 22 (.slice a l c) (.slice none 0 0)).run Try.prog w = .ok a.isNone w := fun d => by cases a <;> simp [Op.equalIn, run_underlying Try.underlying22]
  simp only [binOp]
  cases a <;> simp [Op.equal, Op.maxDepth, hh 9999]

/-- the cells of what is grown -/
theorem grow_olds {w : World} {base n c : Nat} {ok : Nat → Prop} {A : Option Addr} {p : List Int} (h : Kd.R (Kd.int .i64) 3 w base ok (.slice A n c) p) :
    (A = none → p.length = 0 ∧ c = 0) ∧ ∀ b, A = some b → ∀ j u, (encs (Value.int .i64) p)[j]? = some u → w.cell? (b.add j) = some u := by
  have ho := Kd.own_of_R h
  refine ⟨fun e => ?_, fun b e => ?_⟩
  · subst e
    rcases ho.2 with ⟨hv, h0⟩ | ⟨g, cap, cur, hv, _⟩
    · injection hv with _ _ hc
      exact ⟨h0, hc⟩
    · cases hv
  · subst e
    rcases ho.2 with ⟨hv, _⟩ | ⟨g, cap, cur, hv, _⟩
    · cases hv
    · injection hv with hb _ _
      injection hb with hb
      subst hb
      exact ho.cells rfl
theorem grow_new {w w' : World} {base : Nat} {v : Value} {p : List Int} {x : Int} (hb : base ≤ w.heap.size) (ho : w'.ownsRow w.heap.size 3 1 v (p.length + 1) (encs (Value.int .i64) p ++ [.int .i64 x])) : Kd.R (Kd.int .i64) 3 w' base (fun _ => True) v (p ++ [x]) := by
  refine Kd.R_lower (Kd.R_of_own ?_ (fun _ _ => trivial)) hb
  rw [List.length_append, List.length_singleton, show encs (Value.int .i64) (p ++ [x]) = encs (Value.int .i64) p ++ [.int .i64 x] by simp [encs]]
  exact ho
set_option maxHeartbeats 8000000 in
set_option maxRecDepth 100000 in
theorem grow_calls (l : List (List Int)) (h1 : 1 ≤ l.length) (hl : l.length ≤ 5) (hrw : ∀ r ∈ l, r.length ≤ 5) (Bn Bl Bg : Nat) (Al : Option Addr) (cl : Nat) :
    ∀ (d : Nat) (p : List Int) (a1 : Int) (Ap : Option Addr) (cp base : Nat) (w : World), p.length + d = l.length → base ≤ w.heap.size → w.cell? ⟨Bn, 0, none⟩ = some (.int .i64 l.length) → w.cell? ⟨Bl, 0, none⟩ = some (.slice Al l.length cl) → w.cell? ⟨Bg, 0, none⟩ = some (growV Bn Bl Bg) →
      Kd.C (Kd.slice 3 (Kd.int .i64)) w Al l.length l → Kd.R (Kd.int .i64) 3 w base (fun _ => True) (.slice Ap p.length cp) p →
      Calls Try.prog 107 #[.slice Ap p.length cp, .int .i64 a1, .pointer (some ⟨Bn, 0, none⟩), .pointer (some ⟨Bl, 0, none⟩), .pointer (some ⟨Bg, 0, none⟩)] w fun e w' => ∃ v, e = .returned v ∧ GR w' base v (growF l d p a1) ∧ Below w.heap.size w w' := by
  intro d
  induction d with
  | zero =>
    intro p a1 Ap cp base w hpl hbs hkn hkl hkg hcl hrp
    have HRP := Aside0.mk hrp
    have hne : p ≠ [] := by intro e; subst e; simp at hpl; omega
    have c6 : ((p.length : Int) == (l.length : Int)) = true := beq_iff_eq.mpr (by omega)
    have c6b : (p.length == l.length) = true := beq_iff_eq.mpr (by omega)
    clear hrp hcl hkl hkg hpl hrw
    go_enter Try.func107, Try.ntmps107
    go_wp2
    go_ret
    exact ⟨_, rfl, ⟨HRP.out, hne⟩, Below.refl _ _⟩
  | succ d ih =>
    intro p a1 Ap cp base w hpl hbs hkn hkl hkg hcl hrp
    obtain ⟨ad, A8, c8, e8, hx8, hl8, hC8⟩ := at_L1 hcl (p.length : Int) (by omega) (by omega)
    subst e8
    obtain ⟨row, hrow⟩ : ∃ row, rd_L1 l (p.length : Int) = row := ⟨_, rfl⟩
    have hr5 : row.length ≤ 5 := by
      rw [← hrow]
      simp only [rd_L1, Int.toNat_natCast, List.getD_eq_getElem?_getD]
      rw [List.getElem?_eq_getElem (show p.length < l.length by omega)]
      exact hrw _ (List.getElem_mem _)
    have HF := Aside0.mk (show growF l (d + 1) p a1 = growL (growF l d) p a1 row 0 by rw [growF, hrow])
    rw [hrow] at hx8 hl8 hC8
    rw [Int.toNat_natCast] at hx8
    have HRP := Aside0.mk hrp
    have HCL := Aside0.mk hcl
    have HC8 := Aside0.mk hC8
    have HKN := Aside0.mk hkn
    have HKL := Aside0.mk hkl
    have HKG := Aside0.mk hkg
    have HIH := Aside0.mk ih
    have c6 : ((p.length : Int) == (l.length : Int)) = false := beq_eq_false_iff_ne.mpr (by omega)
    have c6b : (p.length == l.length) = false := beq_eq_false_iff_ne.mpr (by omega)
    have c7 : decide ((p.length : Int) < (l.length : Int)) = true := decide_eq_true (by omega)
    have c7b : decide (p.length < l.length) = true := decide_eq_true (by omega)
    have c7c : (p.length < l.length) = True := eq_true (by omega)
    have c7d : ((p.length : Int) < (l.length : Int)) = True := eq_true (by omega)
    have HPL := Aside0.mk hpl
    have HHR := Aside0.mk hrow
    clear hrp hcl hC8 hl8 hrw ih hrow hpl
    obtain ⟨res, hres⟩ : ∃ res, growF l (d + 1) p a1 = res := ⟨_, rfl⟩
    have HRES := Aside0.mk (HF.out.symm.trans hres)
    rw [hres]
    clear hres HF
    go_enter Try.func107, Try.ntmps107
    go_wp2
    clear hkn hkl hkg hx8 c6 c6b c7 c7b c7c c7d
    go_loopw [22] (fun v22 wr => ∃ x : Int, 0 ≤ x ∧ x ≤ (row.length : Int) ∧ v22 = .int .i64 x ∧ Aside0 (growL (growF l d) p a1 (row.drop x.toNat) x = res) ∧ Aside0 (Below w.heap.size w wr)) (fun v22 _ => row.length - (intOf v22).toNat)
    case atStart => exact ⟨0, Int.le_refl _, by omega, rfl, HRES, ⟨Below.refl _ _⟩⟩
    case round =>
      clear HRES
      obtain ⟨x, hx0, hxl, rfl, HG, HB⟩ := hrel
      by_cases hlt : x < (row.length : Int)
      · have HD := Aside0.mk (rdrop row x hx0 hlt)
        have k1 : decide (x < (row.length : Int)) = true := decide_eq_true hlt
        obtain ⟨ad9, e9, hx9⟩ := Kd.at_int (Kd.C_below HC8.out HB.out) x hx0 hlt
        subst e9
        obtain ⟨y, hy⟩ : ∃ y, rd row x = y := ⟨_, rfl⟩
        rw [hy] at hx9
        have HY := Aside0.mk hy
        have kx1 := eq_true hx0
        have kx2 := eq_true hlt
        have kx3 := eq_true (show x ≤ 64 by omega)
        have hx5 : x < 5 := by omega
        clear hy hxl
        have GO : Aside0 (growL (growF l d) p a1 (y :: row.drop (x + 1).toNat) x = res) := ⟨by rw [← HY.out, ← HD.out]; exact HG.out⟩
        have HREL : ∀ wq, Aside0 (Below w.heap.size w wq) → growL (growF l d) p a1 (row.drop (x + 1).toNat) (x + 1) = res → ∃ x' : Int, 0 ≤ x' ∧ x' ≤ (row.length : Int) ∧ Value.int .i64 (x + 1) = .int .i64 x' ∧ Aside0 (growL (growF l d) p a1 (row.drop x'.toNat) x' = res) ∧ Aside0 (Below w.heap.size w wq) := fun wq hb hg => ⟨x + 1, by omega, by omega, rfl, ⟨hg⟩, hb⟩
        have HREL := Aside0.mk HREL
        clear HG HD
        by_cases hp : 0 < y
        · have k2 : decide (y > 0) = true := decide_eq_true hp
          obtain ⟨ji1, hji1⟩ : ∃ j_ : Int, (shr .i64 a1 x) = j_ := ⟨_, rfl⟩
          have hji1_ : (a1 / 2 ^ min x.toNat 64) = ji1 := hji1
          have hji1z : x ≤ 64 → (a1 / 2 ^ x.toNat) = ji1 := shr_small hji1
          by_cases hq : (Go.bits .and .i64 ji1 1) = 0
          · have c12b0 : ((Go.bits .and .i64 (ji1) 1) == 0) = true := beq_iff_eq.mpr hq
            obtain ⟨ji2, hji2⟩ : ∃ j_ : Int, (shl .i64 1 x) = j_ := ⟨_, rfl⟩
            have hji2_ : (IntKind.i64.wrap (1 * 2 ^ min x.toNat 64)) = ji2 := hji2
            have hji2z : x ≤ 64 → (IntKind.i64.wrap (1 * 2 ^ x.toNat)) = ji2 := shl_small hji2
            have hji2u : (IntKind.i64.wrap (2 ^ min x.toNat 64)) = ji2 := by have h_ := hji2_; rw [Int.one_mul] at h_; exact h_
            have hji2v : x ≤ 64 → (IntKind.i64.wrap (2 ^ x.toNat)) = ji2 := fun hle_ => by have h_ := hji2z hle_; rw [Int.one_mul] at h_; exact h_
            have hji2y : (wrap64 (1 * 2 ^ min x.toNat 64)) = ji2 := (i64_w _).symm.trans hji2_
            have hji2x : x ≤ 64 → (wrap64 (1 * 2 ^ x.toNat)) = ji2 := fun h_ => (i64_w _).symm.trans (hji2z h_)
            obtain ⟨rr, hrr⟩ : ∃ rr, growF l d (p ++ [x]) (Go.bits .or .i64 a1 ji2) = rr := ⟨_, rfl⟩
            have HN := Aside0.mk (show nextF rr (growL (growF l d) p a1 (row.drop (x + 1).toNat) (x + 1)) = res by
              have h9 := GO.out
              rw [growL, if_pos hp, hji1, if_pos hq, hji2, hrr] at h9
              exact h9)
            have HRR := Aside0.mk hrr
            have hpc := (Kd.R_reads' HRP.out).2.1
            clear GO hp hrr
            go_wp2
            replace HB := ak (below_drew1 HB.out)
            refine sS (n := 16) (S := fun w' => w'.cell? ⟨Bg, 0, none⟩ = some (growV Bn Bl Bg)) (ds := []) (pw_cell_below HB.out HKG.out) (fun hHeld => ?_); refine with_tabW grow.tab7 grow.bits7 (fun HT_ HW_ => ?_)
            generalize wr.drew = w5 at HB hHeld ⊢
            refine tS 0 36 16 1 ?_
            refine pS 1 37 16 3 ?_
            refine pS 2 38 16 7 ?_
            refine pS 3 39 16 15 ?_
            refine pS 4 40 16 31 ?_
            refine pS 5 41 16 63 ?_
            refine pS 6 42 16 127 ?_
            refine pS 7 43 16 255 ?_
            refine pS 10 46 16 1279 ?_
            refine pS 11 47 16 3327 ?_
            refine pS 12 48 16 7423 ?_
            refine pS 13 49 16 15615 ?_
            refine one_ (i := 8) (N := some 44) (ba 16 15871) rfl rfl (one_of HT_.out (by kernel_rfl)) (by decide) (fun K hK => ?_)
            refine value_ (w1 := ?_) (v := ?_) (by rfl) rfl ?_ ?_
            rotate_left 2
            · go_simp
              constructor
              · rfl
              · rfl
            have hnew : ∀ j u, ([.int .i64 x] : List Value)[j]? = some u → (w5.alloc (.cells #[.int .i64 x] 3)).cell? ((⟨w5.heap.size, 0, none⟩ : Addr).add j) = some u := World.news_of_block (cs := #[.int .i64 x]) (t := 3) (fr := (0, 0)) (heap_alloc_new w5 (.cells #[.int .i64 x] 3))
            replace HB := ak (below_alloc HB.out (.cells #[.int .i64 x] 3))
            refine hK.out _ _ (pw_cell_below HB.out HKG.out) (fun hHeld => ?_)
            clear hK K
            refine norm_ (a' := ?_) ?_ ?_
            rotate_left
            · show Act.put _ (some 44) _ = _
              simp only [Act.put, List.setIfInBounds_toArray, List.set_cons_zero, List.set_cons_succ, i64_w, i32_w]
              rfl
            generalize w5.alloc (.cells #[.int .i64 x] 3) = w6 at HB hHeld hnew ⊢
            generalize (⟨w5.heap.size, 0, none⟩ : Addr) = ad6 at hnew ⊢
            obtain ⟨i0, hi0, hz0⟩ := Option.map_eq_some_iff.1 info3
            simp only [Prod.mk.injEq] at hz0
            obtain ⟨z0, z1, z2⟩ := hz0
            obtain ⟨ho1, ho2⟩ := grow_olds (Kd.R_below HRP.out HB.out)
            refine one_ (i := 9) (N := some 45) (ba 16 16383) rfl rfl (one_of HT_.out (by kernel_rfl)) (by decide) (fun K hK => ?_)
            refine step_append_grows rfl (.tmp 42) (.tmp 44) 22 rfl 3 i0 (.int .i64 0) 1 8 Try.underlying22 hi0 z0 z1 z2 rfl (by decide) Ap p.length p.length (encs (Value.int .i64) p) rfl (fun e => ⟨(ho1 e).1, (ho1 e).1⟩) (by simp [encs]) ho2 ad6 1 1 [.int .i64 x] rfl rfl hnew (by intro u hu; rw [List.mem_singleton.1 hu]; rfl) (by omega) (by have := HPL.out; unfold maxLen; omega) (by have := HPL.out; omega) ?_
            intro v7 w7 hown hgrow
            have hR := grow_new (base := base) (Nat.le_trans hbs (below_size HB.out)) hown
            replace HB := ak (HB.out.grown hgrow (below_size HB.out) (fun k hk => by cases hk))
            clear hown hgrow ho1 ho2 hnew hi0 z0 z1 z2
            obtain ⟨A7, c7, e7⟩ := Kd.R_slice hR
            subst e7
            have HR7 := Aside0.mk hR
            clear hR
            refine hK.out _ _ (pw_cell_below HB.out HKG.out) (fun hHeld => ?_)
            clear hK K
            refine norm_ (a' := ?_) ?_ ?_
            rotate_left
            · show Act.put _ (some 45) _ = _
              simp only [Act.put, List.setIfInBounds_toArray, List.set_cons_zero, List.set_cons_succ, i64_w, i32_w]
              rfl
            refine one_ (i := 14) (N := some 50) (ba 16 32767) rfl rfl (one_of HT_.out (by kernel_rfl)) (by decide) (fun K hK => ?_)
            refine grow.goesV Try.func107 (by kernel_rfl) rfl #[.slice A7 (p ++ [x]).length c7, .int .i64 (Go.bits .or .i64 a1 ji2)] #[.slice A7 (p ++ [x]).length c7, .int .i64 (Go.bits .or .i64 a1 ji2), .pointer (some ⟨Bn, 0, none⟩), .pointer (some ⟨Bl, 0, none⟩), .pointer (some ⟨Bg, 0, none⟩)] (by rfl) rfl rfl (by rfl) rfl (by first | done | rfl | ((try simp only [List.map_toArray, List.map_cons, List.map_nil]); rfl)) ?_
            refine (HIH.out (p ++ [x]) (Go.bits .or .i64 a1 ji2) A7 c7 base w7 (by rw [List.length_append, List.length_singleton]; have := HPL.out; omega) (Nat.le_trans hbs (below_size HB.out)) (pw_cell_below HB.out HKN.out) (pw_cell_below HB.out HKL.out) (pw_cell_below HB.out HKG.out) (Kd.C_below HCL.out HB.out) HR7.out).mono ?_
            rintro e w8 ⟨v8, rfl, hgr, hb⟩
            rw [HRR.out] at hgr
            refine ⟨_, rfl, ?_⟩
            replace HB := ak (below_step HB.out hb)
            have HGR := Aside0.mk hgr
            clear hgr hb HR7
            refine hK.out _ _ (pw_cell_below HB.out HKG.out) (fun hHeld => ?_)
            clear hK K
            refine norm_ (a' := ?_) ?_ ?_
            rotate_left
            · show Act.put _ (some 50) _ = _
              simp only [Act.put, List.setIfInBounds_toArray, List.set_cons_zero, List.set_cons_succ, i64_w, i32_w]
              rfl
            refine pS 15 10 16 65535 ?_
            refine done_ (done_of HT_.out (by kernel_rfl)) ?_
            clear hHeld
            have hnil := nileq22
            cases rr with
            | none =>
              have hv := HGR.out
              obtain rfl : v8 = .slice none 0 0 := hv
              clear HGR
              go_wp2
              go_roundw
              case rel => exact HREL.out _ HB HN.out
              case measure => simp [intOf]; omega
            | some q =>
              obtain ⟨hq1, hq2⟩ := HGR.out
              have hql : 0 < q.length := List.length_pos_iff.mpr hq2
              obtain ⟨gq, cq, eq_, _⟩ := Kd.R_form hq1 hql
              subst eq_
              have hres : res = some q := HN.out.symm
              subst hres
              clear hq1 hq2
              go_wp2
              go_ret
              exact ⟨_, rfl, HGR.out, HB.out⟩
          · have c12b0 : ((Go.bits .and .i64 (ji1) 1) == 0) = false := beq_eq_false_iff_ne.mpr hq
            have HN := Aside0.mk (show growL (growF l d) p a1 (row.drop (x + 1).toNat) (x + 1) = res by
              have h9 := GO.out
              rw [growL, if_pos hp, hji1, if_neg hq] at h9
              exact h9)
            clear GO hp
            go_wp2
            go_roundw
            case rel => exact HREL.out _ HB HN.out
            case measure => simp [intOf]; omega
        · have k2 : decide (y > 0) = false := decide_eq_false hp
          have HN := Aside0.mk (show growL (growF l d) p a1 (row.drop (x + 1).toNat) (x + 1) = res by
            have h9 := GO.out
            rw [growL, if_neg hp] at h9
            exact h9)
          clear GO hp
          go_wp2
          go_roundw
          case rel => exact HREL.out _ HB HN.out
          case measure => simp [intOf]; omega
      · have k1 : decide (x < (row.length : Int)) = false := decide_eq_false hlt
        have HN := Aside0.mk (show growL (growF l d) p a1 (row.drop x.toNat) x = none by
          rw [List.drop_of_length_le (by omega)]; rfl)
        go_wp2
        go_ret
        exact ⟨_, rfl, by rw [← HG.out, HN.out]; rfl, HB.out⟩
theorem match_put0 (W : World) (fn : Fn) (first cap : Array Value) : (store ⟨W.heap.size, 0, none⟩ (.func fn first cap)).run Try.prog (W.alloc (Obj.cells #[Value.nilFunc] 109)) = .ok () ((W.alloc (Obj.cells #[Value.nilFunc] 109)).setCell ⟨W.heap.size, 0, none⟩ (.func fn first cap)) := by
  rw [run_store Try.prog _ _ _ _ rfl]
  simp
theorem match_put (w : World) (u v : Obj) (fn : Fn) (first cap : Array Value) : (store ⟨w.heap.size + 1 + 1, 0, none⟩ (.func fn first cap)).run Try.prog (((w.alloc u).alloc v).alloc (Obj.cells #[Value.nilFunc] 109)) = .ok () ((((w.alloc u).alloc v).alloc (Obj.cells #[Value.nilFunc] 109)).setCell ⟨w.heap.size + 1 + 1, 0, none⟩ (.func fn first cap)) := by
  have h := match_put0 ((w.alloc u).alloc v) fn first cap
  simpa only [World.size_alloc] using h
theorem match_boxes (w : World) (u v : Value) (f : Value) : ((((w.alloc (Obj.cells #[u] 48)).alloc (Obj.cells #[v] 3)).alloc (Obj.cells #[f] 109)).cell? ⟨w.heap.size, 0, none⟩ = some u ∧ (((w.alloc (Obj.cells #[u] 48)).alloc (Obj.cells #[v] 3)).alloc (Obj.cells #[f] 109)).cell? ⟨w.heap.size + 1, 0, none⟩ = some v ∧ (((w.alloc (Obj.cells #[u] 48)).alloc (Obj.cells #[v] 3)).alloc (Obj.cells #[f] 109)).cell? ⟨w.heap.size + 1 + 1, 0, none⟩ = some f) ∧ Below w.heap.size w (((w.alloc (Obj.cells #[u] 48)).alloc (Obj.cells #[v] 3)).alloc (Obj.cells #[f] 109)) := by
  refine ⟨⟨by go_simp, by go_simp, by go_simp⟩, ?_⟩
  exact below_alloc (below_alloc (below_alloc (Below.refl _ w) _) _) _
set_option maxHeartbeats 4000000 in
set_option maxRecDepth 100000 in
theorem match_calls (l : List (List Int)) (h1 : 1 ≤ l.length) (hl : l.length ≤ 5) (hrw : ∀ r ∈ l, r.length ≤ 5) (A : Option Addr) (c : Nat) (w : World) (hr : Kd.C (Kd.slice 3 (Kd.int .i64)) w A l.length l) :
    Calls Try.prog 84 #[.slice A l.length c] w fun e w' => ∃ v, e = .returned v ∧ GR w' w.heap.size v (growF l l.length [] 0) ∧ Below w.heap.size w w' := by
  have hmf : ∀ (fn : Fn) (first cap : Array Value) (w : World), (Instr.makeFunc fn first cap).run Try.prog w = .ok (.func fn first cap) w := fun _ _ _ _ => rfl
  have hst := match_put
  obtain ⟨⟨m1, m2, m3⟩, mb⟩ := match_boxes w (.slice A l.length c) (.int .i64 l.length) (growV (w.heap.size + 1) w.heap.size (w.heap.size + 1 + 1))
  have hcall := grow_calls l h1 hl hrw (w.heap.size + 1) w.heap.size (w.heap.size + 1 + 1) A c l.length [] 0 none 0 w.heap.size _ (by simp) (below_size mb) m2 m1 m3 (Kd.C_below hr mb) (Kd.R_nil _ _ _ _ _)
  have HC := Lib.hid hcall
  have HM := Aside0.mk mb
  unfold growV at m1 m2 m3 HC HM
  clear hcall mb hr hrw
  go_enter Try.func84, Try.ntmps84
  go_wp2_with (go_at_call 107; refine (HC.out).mono ?_; rintro e w' ⟨v, rfl, hgr, hb⟩; have HGR := Aside0.mk hgr; have HB := Aside0.mk (below_step HM.out hb); clear hgr hb)
  go_ret
  exact ⟨_, rfl, HGR.out, HB.out⟩
end Go.Proofs.Ytefmafbbnkkpjaa.X
