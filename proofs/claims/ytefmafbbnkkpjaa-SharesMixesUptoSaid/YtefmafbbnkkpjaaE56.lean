/- The walk of Mix: gives, one after the other, each mixed in; the rows laid in the order that was asked for. -/
import Derived.Test.YtefmafbbnkkpjaaXG2a
import Derived.Test.YtefmafbbnkkpjaaXf60
import Derived.Test.YtefmafbbnkkpjaaXf73
import Derived.Test.YtefmafbbnkkpjaaXf74
import Derived.Test.YtefmafbbnkkpjaaXf93
import Derived.Test.YtefmafbbnkkpjaaE92
import Derived.Test.YtefmafbbnkkpjaaE95b
import Derived.Test.YtefmafbbnkkpjaaE96
namespace Go.Proofs.Ytefmafbbnkkpjaa.X
open Go.RowKit Go.Proofs.YtefmafbbnkkpjaaW.PrintWords Go.Proofs.YtefmafbbnkkpjaaW.PrintLast Go.Proofs.YtefmafbbnkkpjaaW.PrintMore
attribute [local go_sem] max2_int min2_int max_two min_two max_three min_three max_four min_four   -- for this text's walks alone
set_option linter.unusedVariables false
set_option linter.unusedSimpArgs false

theorem two_C {w : World} {A0 A1 : Option Addr} {c0 c1 : Nat} {l0 l1 : List Int} (h0 : Kd.C (Kd.int .i64) w A0 l0.length l0) (hc0 : l0.length ≤ c0) (h1 : Kd.C (Kd.int .i64) w A1 l1.length l1) (hc1 : l1.length ≤ c1) :
    Kd.C (Kd.slice 3 (Kd.int .i64)) (w.alloc (.cells #[.slice A0 l0.length c0, .slice A1 l1.length c1] 22)) (some ⟨w.heap.size, 0, none⟩) ([l0, l1] : List (List Int)).length [l0, l1] := by
  have hb : Below w.heap.size w (w.alloc (.cells #[.slice A0 l0.length c0, .slice A1 l1.length c1] 22)) := below_alloc (Below.refl _ _) _
  have hcell : ∀ (j : Nat) (u : Value), [Value.slice A0 l0.length c0, Value.slice A1 l1.length c1][j]? = some u → (w.alloc (.cells #[.slice A0 l0.length c0, .slice A1 l1.length c1] 22)).cell? ((⟨w.heap.size, 0, none⟩ : Addr).add j) = some u := fun j u hu => by
    rw [add_plain]
    have := cell_of_row (w.alloc (.cells #[.slice A0 l0.length c0, .slice A1 l1.length c1] 22)) w.heap.size j _ 22 (0, 0) (heap_alloc_new w _)
    rw [this]
    simpa using hu
  refine ⟨rfl, by simp, fun _ => ⟨_, rfl, fun j p hj => ?_⟩⟩
  match j, hj with
  | 0, hj =>
    obtain rfl : l0 = p := by simpa using hj
    exact ⟨[.slice A0 l0.length c0], rfl, ⟨A0, c0, rfl, hc0, Kd.C_below h0 hb⟩, fun i u hu => by
      have hi : i = 0 := by
        have := (List.getElem?_eq_some_iff.1 hu).1
        simpa using this
      subst hi
      exact hcell _ u hu⟩
  | 1, hj =>
    obtain rfl : l1 = p := by simpa using hj
    exact ⟨[.slice A1 l1.length c1], rfl, ⟨A1, c1, rfl, hc1, Kd.C_below h1 hb⟩, fun i u hu => by
      have hi : i = 0 := by
        have := (List.getElem?_eq_some_iff.1 hu).1
        simpa using this
      subst hi
      exact hcell _ u hu⟩
  | j + 2, hj => simp at hj
/-- an element of a matrix of one's own is written -/
theorem S_put_T62 {w : World} {base g n cap : Nat} {ok : Nat → Prop} {L : List (List S62)} (h : Kd.S kMx 52 w base ok (.slice (some ⟨g, 0, none⟩) n cap) L) (i j : Int) (hi0 : 0 ≤ i) (hi : i < L.length) (hj0 : 0 ≤ j) (hj : j < (rd_L5 L i).length) :
    ∃ gi ci u0 u1, w.cell? ⟨g, i.toNat, none⟩ = some (.slice (some ⟨gi, 0, none⟩) (rd_L5 L i).length ci) ∧ w.cell? ⟨gi, j.toNat * 2, none⟩ = some u0 ∧ w.cell? ⟨gi, j.toNat * 2 + 1, none⟩ = some u1 ∧ w.frozen? ⟨gi, j.toNat * 2, none⟩ = false ∧ w.frozen? ⟨gi, j.toNat * 2 + 1, none⟩ = false ∧ base ≤ gi ∧ gi < w.heap.size ∧ gi ≠ g ∧
      ∀ x : S62, Kd.S kMx 52 ((w.setCell ⟨gi, j.toNat * 2, none⟩ (.int .i64 x.f0)).setCell ⟨gi, j.toNat * 2 + 1, none⟩ (.int .i64 x.f1)) base ok (.slice (some ⟨g, 0, none⟩) n cap) (L.set i.toNat ((rd_L5 L i).set j.toNat x)) := by
  have hn := (Kd.S_reads' h).1
  obtain ⟨oki, c, hcl, hM, hcc, hoki, hH⟩ := Kd.S_lend h [] i hi0 (by omega)
  obtain ⟨v, rfl, hR⟩ := hM
  obtain ⟨gi, ci, rfl, hb, hlt, _⟩ := Kd.R_form hR (show 0 < (rd_L5 L i).length by omega)
  obtain ⟨ce, hcel, hMe, hcce, hfre⟩ := Kd.R_elem hR z62 j hj0 hj
  obtain rfl := k62_openM hMe
  have hcell := hcc 0 _ rfl
  simp only [Nat.add_zero, show kMx.sz = 1 from rfl, Nat.mul_one] at hcell
  have h0 := hcce 0 _ rfl
  have h1 := hcce 1 _ rfl
  have f0 := hfre 0
  have f1 := hfre 1
  simp only [Nat.add_zero, show k62.sz = 2 from rfl] at h0 h1 f0 f1
  refine ⟨gi, ci, _, _, hcell, h0, h1, f0, f1, hb, hlt, (hoki gi (hR.1 gi rfl)).2, fun x => ?_⟩
  obtain ⟨a1, a2⟩ := Kd.R_seg hR j hj0 hj hcel hcce (seg := [.int .i64 x.f0, .int .i64 x.f1]) (j := 0) (Nat.le_refl _) (x' := x) (okp := fun _ => False) (k62_mkM _ _ _ x) (fun _ hk => hk.elim)
  exact Kd.H_back (Kd.H_grown hH a2 (fun k hk => by injection hk with hk; subst hk; exact hR.1 _ rfl)) ⟨_, rfl, a1⟩ (fun _ hk => hk)
/-- what Mix needs to be told of its numbers -/
def okX (x : List Int) : Bool := decide (1 ≤ x.length) && (decide (x.length ≤ 12) && x.all fun v => decide (0 ≤ v) && decide (v ≤ 1000))
theorem okX_at {x : List Int} (h : okX x = true) : 1 ≤ x.length ∧ x.length ≤ 12 ∧ ∀ v ∈ x, 0 ≤ v ∧ v ≤ 1000 := by
  unfold okX at h
  simpa only [Bool.and_eq_true, decide_eq_true_eq, List.all_eq_true] using h
/-- a square matrix -/
def okM (n : Nat) (m : List (List S62)) : Bool := decide (m.length = n) && m.all fun r => decide (r.length = n)
theorem okM_at {n : Nat} {m : List (List S62)} (h : okM n m = true) : m.length = n ∧ ∀ r ∈ m, r.length = n := by
  unfold okM at h
  simpa only [Bool.and_eq_true, decide_eq_true_eq, List.all_eq_true] using h
/-- indices of n places -/
def okI (n : Nat) (p : List Int) : Bool := decide (p.length = n) && p.all fun v => decide (0 ≤ v) && decide (v < n)
theorem okI_at {n : Nat} {p : List Int} (h : okI n p = true) : p.length = n ∧ ∀ v ∈ p, 0 ≤ v ∧ v < (n : Int) := by
  unfold okI at h
  simpa only [Bool.and_eq_true, decide_eq_true_eq, List.all_eq_true] using h
def wOne : S62 := ⟨1, 1⟩
def putL : List (List S62) → List Int → Int → List (List S62)
  | m, [], _ => m
  | m, j :: js, i => putL (m.set i.toNat ((rd_L5 m i).set j.toNat wOne)) js (i + 1)
def mixL (k n : Nat) : List S77 → List (List S62) → List Int → Option (List (List S62))
  | [], m, _ => if okM n m = true then some m else none
  | g :: gs, m, now => if okM n m = true ∧ now.length = n ∧ 0 ≤ g.f0 ∧ g.f0 < (n : Int) ∧ 0 ≤ g.f1 ∧ g.f1 < (n : Int) ∧ g.f0 ≠ g.f1 then (match shares_mixture_after.f k m g.f0 g.f1 g.f2 now with
      | none => none
      | some m' => match shares_Give_do.f g.f0 g.f1 g.f2 now with
        | none => none
        | some q => mixL k n gs m' q.2) else none
def outL (m : List (List S62)) : List (List S62) → List Int → Int → List (List S62)
  | o, [], _ => o
  | o, j :: js, i => outL m (o.set j.toNat (rd_L5 m i)) js (i + 1)
def xMix.g (k : Nat) (x y : List Int) : Option (List (List S62)) :=
  if okX x = true ∧ okX y = true ∧ y.length = x.length ∧ okI x.length (orderF x) = true ∧ okI x.length (orderF y) = true then (match shares_empty.f k x.length with
    | none => none
    | some m0 => if okM x.length m0 = true then (match xFalling.f x with
      | none => none
      | some fx => match xFalling.f y with
        | none => none
        | some fy => match shares_gives.f k fx fy with
          | none => none
          | some gs => if gs.length ≤ 1000 then (match mixL k x.length gs (putL m0 (orderF x) 0) fx with
            | none => none
            | some m => some (outL m (List.replicate x.length []) (orderF y) 0)) else none) else none) else none
def xMix.f (k : Nat) (x y : List Int) : Option (List (List S62) × Int) :=
  match shares_are.f k [x, y] with
  | none => none
  | some a => if a = true then (match shares_uneven.f k x y with
      | none => none
      | some u => if u = true then (match xMix.g k x y with
          | none => none
          | some r => some (r, 0)) else some ([], 4)) else some ([], 2)
def mxp.T10 : Bool × List (List Nat × List Nat) := (true,  [([], []), ([], []), ([0, 1], [0, 1]), ([2], [2]), ([], []), ([], []), ([3, 4, 0, 1, 2, 3, 4, 5], [3, 4]), ([6, 5, 5, 0, 1, 2, 3, 4, 5], [5, 6])])
def mxp.B10 : List Nat := [0, 0, 3, 7, 0, 0, 63, 127]
theorem mxp.tab10 : rtab .any (opsOf Try.f56 10) = mxp.T10 := by kernel_rfl
theorem mxp.bits10 : waitsOk mxp.T10.2 mxp.B10 = true := by kernel_rfl
theorem rd5_mem {m : List (List S62)} {i : Int} (h0 : 0 ≤ i) (h : i < m.length) : rd_L5 m i ∈ m := by
  unfold rd_L5
  rw [List.getD_eq_getElem?_getD, List.getElem?_eq_getElem (show i.toNat < m.length by omega)]
  exact List.getElem_mem _
theorem rdI_mem {l : List Int} {i : Int} (h0 : 0 ≤ i) (h : i < l.length) : rd l i ∈ l := by
  unfold rd
  rw [List.getD_eq_getElem?_getD, List.getElem?_eq_getElem (show i.toNat < l.length by omega)]
  exact List.getElem_mem _
theorem rdropI (l : List Int) (i : Int) (h0 : 0 ≤ i) (h1 : i < l.length) : l.drop i.toNat = rd l i :: l.drop (i + 1).toNat := by
  obtain ⟨k, rfl⟩ : ∃ k : Nat, i = k := ⟨i.toNat, by omega⟩
  have hk : k < l.length := by omega
  rw [Int.toNat_natCast, show ((k : Int) + 1).toNat = k + 1 by omega, List.drop_eq_getElem_cons hk]
  simp [rd, List.getD_eq_getElem?_getD, List.getElem?_eq_getElem hk]
theorem sq_set {m : List (List S62)} {n : Nat} {i : Int} {r : List S62} (h : m.length = n ∧ ∀ r ∈ m, r.length = n) (hr : r.length = n) : (m.set i.toNat r).length = n ∧ ∀ r' ∈ m.set i.toNat r, r'.length = n := by
  refine ⟨by rw [List.length_set]; exact h.1, fun r' hr' => ?_⟩
  rcases List.mem_or_eq_of_mem_set hr' with h1 | h1
  · exact h.2 _ h1
  · rw [h1]; exact hr
theorem rdropG (l : List S77) (i : Int) (h0 : 0 ≤ i) (h1 : i < l.length) : l.drop i.toNat = rd_T77 l i :: l.drop (i + 1).toNat := by
  obtain ⟨k, rfl⟩ : ∃ k : Nat, i = k := ⟨i.toNat, by omega⟩
  have hk : k < l.length := by omega
  rw [Int.toNat_natCast, show ((k : Int) + 1).toNat = k + 1 by omega, List.drop_eq_getElem_cons hk]
  simp [rd_T77, List.getD_eq_getElem?_getD, List.getElem?_eq_getElem hk]
theorem mixL_ok {k n : Nat} {gs : List S77} {m mm : List (List S62)} {now : List Int} (h : mixL k n gs m now = some mm) : okM n m = true := by
  cases gs with
  | nil =>
    rw [mixL] at h
    by_cases h2 : okM n m = true
    · exact h2
    · rw [if_neg h2] at h; cases h
  | cons g gs =>
    rw [mixL] at h
    by_cases h2 : okM n m = true ∧ now.length = n ∧ 0 ≤ g.f0 ∧ g.f0 < (n : Int) ∧ 0 ≤ g.f1 ∧ g.f1 < (n : Int) ∧ g.f0 ≠ g.f1
    · exact h2.1
    · rw [if_neg h2] at h; cases h
/-- what Mix holds while it mixes -/
structure MxS (w W2 wq : World) (v8 v11 vg vt : Value) (m : List (List S62)) (now : List Int) (gs : List S77) (tt : List Int) : Prop where
  M : kMx.R 52 wq w.heap.size (fun k => some k ≠ v11.ownBlock) v8 m
  N : Kd.R (Kd.int .i64) 3 wq W2.heap.size (fun k => some k = v11.ownBlock) v11 now
  G : Kd.R k77 77 wq w.heap.size (fun k => some k ≠ v11.ownBlock) vg gs
  T : Kd.R (Kd.int .i64) 3 wq w.heap.size (fun k => k < W2.heap.size) vt tt
  B : Below w.heap.size w wq
  B2 : Below W2.heap.size W2 wq
section
variable {w W2 wq wr : World} {v8 v11 vg vt : Value} {m m' : List (List S62)} {now now' : List Int} {gs : List S77} {tt : List Int}
theorem apartM (h : kMx.R 52 wq w.heap.size (fun _ => True) v8 m) (hN : Kd.R (Kd.int .i64) 3 wq W2.heap.size (fun _ => True) v11 now) : kMx.R 52 wq w.heap.size (fun k => some k ≠ v11.ownBlock) v8 m :=
  Kd.R_mono (Kd.R_apart' h (Kd.R_typed hN) (by decide)) (fun _ hk => hk.2)
theorem MxS.start (hM : kMx.R 52 W2 w.heap.size (fun _ => True) v8 m) (hT : Kd.R (Kd.int .i64) 3 W2 w.heap.size (fun _ => True) vt tt) (hN : Kd.R (Kd.int .i64) 3 wq W2.heap.size (fun _ => True) v11 now) (hG : Kd.R k77 77 wq w.heap.size (fun _ => True) vg gs) (hB : Below w.heap.size w wq) (hB2 : Below W2.heap.size W2 wq) : MxS w W2 wq v8 v11 vg vt m now gs tt :=
  ⟨apartM (Kd.R_below hM hB2) hN, Kd.R_mono (Kd.R_tight rfl hN) (fun _ hk => hk), Kd.R_mono (Kd.R_apart' hG (Kd.R_typed hN) (by decide)) (fun _ hk => hk.2), Kd.R_mono (Kd.R_below (Kd.R_mono (Kd.R_bound hT) (fun _ hk => hk.2.2.1)) hB2) (fun _ hk => hk), hB, hB2⟩
theorem MxS.below (h : MxS w W2 wq v8 v11 vg vt m now gs tt) (hb : Below wq.heap.size wq wr) : MxS w W2 wr v8 v11 vg vt m now gs tt :=
  ⟨Kd.R_below h.M hb, Kd.R_below h.N hb, Kd.R_below h.G hb, Kd.R_below h.T hb, below_step h.B hb, below_step h.B2 hb⟩
/-- another matrix -/
theorem MxS.mat {v8' : Value} (h : MxS w W2 wq v8 v11 vg vt m now gs tt) (hM : kMx.R 52 wq w.heap.size (fun _ => True) v8' m') : MxS w W2 wq v8' v11 vg vt m' now gs tt :=
  ⟨apartM hM (Kd.R_mono h.N (fun _ _ => trivial)), h.N, h.G, h.T, h.B, h.B2⟩
/-- a give is done -/
theorem MxS.gone (h : MxS w W2 wq v8 v11 vg vt m now gs tt) (hN : Kd.R (Kd.int .i64) 3 wr W2.heap.size (fun k_ => ((some k_ = v11.ownBlock) ∨ wq.heap.size ≤ k_)) v11 now') (hB : Below W2.heap.size W2 wr) (hw2 : Below w.heap.size w W2) (hk : Kept wq wr (fun k_ => some k_ = v11.ownBlock)) : MxS w W2 wr v8 v11 vg vt m now' gs tt := by
  have hbase : ∀ k, v11.ownBlock = some k → W2.heap.size ≤ k := Kd.R_base h.N
  exact ⟨Kd.R_step h.M (fun k hk1 hlt => hk.2 k hlt hk1), Kd.R_mono (Kd.R_tight rfl hN) (fun _ hk => hk), Kd.R_step h.G (fun k hk1 hlt => hk.2 k hlt hk1), Kd.R_step h.T (fun k hk1 hlt => hk.2 k hlt (fun e => by have := hbase k e.symm; omega)), below_step hw2 hB, hB⟩
end
set_option maxHeartbeats 8000000 in
set_option maxRecDepth 100000 in
theorem xMix.calls (k : Nat) (A0 : Option Addr) (c0 : Nat) (l0 : List Int) (A1 : Option Addr) (c1 : Nat) (l1 : List Int) (r1 : List (List S62)) (r2 : Int) (w : World) (hr0 : Kd.C (Kd.int .i64) w A0 l0.length l0) (hc0 : l0.length ≤ c0) (hr1 : Kd.C (Kd.int .i64) w A1 l1.length l1) (hc1 : l1.length ≤ c1) (h : xMix.f k l0 l1 = some (r1, r2)) :
    Calls Try.prog 56 #[.slice A0 l0.length c0, .slice A1 l1.length c1] w fun e w' => ∃ v0_ : Value, e = .returned (.tuple #[v0_, .int .i64 r2]) ∧ Kd.R (Kd.slice 62 k62) 52 w' w.heap.size (fun _ => True) v0_ r1 ∧ Below w.heap.size w w' := by
  unfold xMix.f at h
  cases hA : shares_are.f k [l0, l1] with
  | none => rw [hA] at h; cases h
  | some a =>
    rw [hA] at h
    dsimp only at h
    obtain ⟨w1, hw1⟩ : ∃ w1, w1 = w.alloc (.cells #[.slice A0 l0.length c0, .slice A1 l1.length c1] 22) := ⟨_, rfl⟩
    have hC2 := two_C hr0 hc0 hr1 hc1
    rw [← hw1] at hC2
    have HA := Aside0.mk (shares_are.calls k _ 2 [l0, l1] a w1 hC2 (Nat.le_refl _) hA)
    have HB1 := Aside0.mk (show Below w.heap.size w w1 by rw [hw1]; exact below_alloc (Below.refl _ _) _)
    have HW1 := Aside0.mk hw1
    have HR0 := Aside0.mk hr0
    have HR1 := Aside0.mk hr1
    have HC0 := Aside0.mk hc0
    have HC1 := Aside0.mk hc1
    have H := Aside0.mk h
    clear hA hC2 hw1 hr0 hr1 hc0 hc1 h
    cases a with
    | false =>
      obtain ⟨rfl, rfl⟩ : [] = r1 ∧ 2 = r2 := by have := H.out; rw [if_neg (by decide)] at this; simpa using this
      clear H
      go_enter Try.func56, Try.ntmps56
      go_wp2_with (go_at_call 59; rw [← HW1.out]; refine (HA.out).mono ?_; rintro e w2 ⟨rfl, hb⟩; have HB2 := Aside0.mk hb; clear hb)
      go_ret2
      exact ⟨_, rfl, Kd.R_nil _ _ _ _ _, below_step HB1.out HB2.out⟩
    | true =>
      have h := H.out
      rw [if_pos rfl] at h
      clear H
      cases hU : shares_uneven.f k l0 l1 with
      | none => rw [hU] at h; cases h
      | some u =>
        rw [hU] at h
        dsimp only at h
        have HU := Aside0.mk (fun (W : World) (hb : Below w.heap.size w W) => shares_uneven.calls k A0 c0 l0 A1 c1 l1 u W (Kd.C_below HR0.out hb) HC0.out (Kd.C_below HR1.out hb) HC1.out hU)
        have H := Aside0.mk h
        clear h hU
        cases u with
        | false =>
          obtain ⟨rfl, rfl⟩ : [] = r1 ∧ 4 = r2 := by have := H.out; rw [if_neg (by decide)] at this; simpa using this
          clear H
          go_enter Try.func56, Try.ntmps56
          go_wp2_with (first | (go_at_call 59; rw [← HW1.out]; refine (HA.out).mono ?_; rintro e w2 ⟨rfl, hb⟩; have HB2 := Aside0.mk (below_step HB1.out hb); clear hb) | (go_at_call 60; refine (HU.out _ HB2.out).mono ?_; rintro e w3 ⟨rfl, hb⟩; have HB3 := Aside0.mk (below_step HB2.out hb); clear hb))
          go_ret2
          exact ⟨_, rfl, Kd.R_nil _ _ _ _ _, HB3.out⟩
        | true =>
          have h := H.out
          rw [if_pos rfl] at h
          clear H
          cases hg : xMix.g k l0 l1 with
          | none => rw [hg] at h; cases h
          | some r =>
            rw [hg] at h
            dsimp only at h
            simp only [Option.some.injEq, Prod.mk.injEq] at h
            obtain ⟨rfl, rfl⟩ := h
            unfold xMix.g at hg
            by_cases hok : okX l0 = true ∧ okX l1 = true ∧ l1.length = l0.length ∧ okI l0.length (orderF l0) = true ∧ okI l0.length (orderF l1) = true
            rotate_left
            · rw [if_neg hok] at hg; cases hg
            rw [if_pos hok] at hg
            obtain ⟨hx, hy, hlen, hi0, hi1⟩ := hok
            obtain ⟨hx1, hx2, hx3⟩ := okX_at hx
            obtain ⟨hy1, hy2, hy3⟩ := okX_at hy
            obtain ⟨hi01, hi02⟩ := okI_at hi0
            obtain ⟨hi11, hi12⟩ := okI_at hi1
            cases hE : shares_empty.f k l0.length with
            | none => rw [hE] at hg; cases hg
            | some m0 =>
              rw [hE] at hg
              dsimp only at hg
              by_cases hm0 : okM l0.length m0 = true
              rotate_left
              · rw [if_neg hm0] at hg; cases hg
              rw [if_pos hm0] at hg
              obtain ⟨hm01, hm02⟩ := okM_at hm0
              cases hfx : xFalling.f l0 with
              | none => rw [hfx] at hg; cases hg
              | some fx =>
                rw [hfx] at hg
                dsimp only at hg
                cases hfy : xFalling.f l1 with
                | none => rw [hfy] at hg; cases hg
                | some fy =>
                  rw [hfy] at hg
                  dsimp only at hg
                  cases hgs : shares_gives.f k fx fy with
                  | none => rw [hgs] at hg; cases hg
                  | some gs =>
                    rw [hgs] at hg
                    dsimp only at hg
                    by_cases hgl : gs.length ≤ 1000
                    rotate_left
                    · rw [if_neg hgl] at hg; cases hg
                    rw [if_pos hgl] at hg
                    cases hmx : mixL k l0.length gs (putL m0 (orderF l0) 0) fx with
                    | none => rw [hmx] at hg; cases hg
                    | some mm =>
                      rw [hmx] at hg
                      dsimp only at hg
                      have HRES := Aside0.mk (Option.some.inj hg)
                      have HMX := Aside0.mk hmx
                      have HOX := Aside0.mk (fun (W : World) (hb : Below w.heap.size w W) => order_calls l0 hx1 hx2 hx3 A0 c0 W (Kd.C_below HR0.out hb) HC0.out)
                      have HOY := Aside0.mk (fun (W : World) (hb : Below w.heap.size w W) => order_calls l1 hy1 hy2 hy3 A1 c1 W (Kd.C_below HR1.out hb) HC1.out)
                      have HE := Aside0.mk (fun (W : World) => shares_empty.calls k l0.length m0 W hE)
                      have HFX := Aside0.mk (fun (W : World) (hb : Below w.heap.size w W) => xFalling.calls A0 c0 l0 fx W (Kd.C_below HR0.out hb) HC0.out hfx)
                      have HFY := Aside0.mk (fun (W : World) (hb : Below w.heap.size w W) => xFalling.calls A1 c1 l1 fy W (Kd.C_below HR1.out hb) HC1.out hfy)
                      have HGS := Aside0.mk hgs
                      have HI0 := Aside0.mk hi02
                      have HI1 := Aside0.mk hi12
                      have HL := Aside0.mk hlen
                      have HX := Aside0.mk (show 1 ≤ l0.length ∧ l0.length ≤ 12 from ⟨hx1, hx2⟩)
                      have HM0 := Aside0.mk hm02
                      have HGL := Aside0.mk hgl
                      clear hg hmx hE hfx hfy hgs hi0 hi1 hx hy hx3 hy3 hi02 hi12 hlen hm0 hm02 hx1 hx2 hy1 hy2 hgl
                      generalize hfo : orderF l0 = ox at *
                      generalize hto : orderF l1 = oy at *
                      clear hfo hto
                      go_enter Try.func56, Try.ntmps56
                      go_wp2_with (first | (go_at_call 59; rw [← HW1.out]; refine (HA.out).mono ?_; rintro e w2 ⟨rfl, hb⟩; have HB2 := Aside0.mk (below_step HB1.out hb); clear hb) | (go_at_call 60; refine (HU.out _ HB2.out).mono ?_; rintro e w3 ⟨rfl, hb⟩; have HB3 := Aside0.mk (below_step HB2.out hb); clear hb) | (go_at_call 92; refine (HOX.out _ HB3.out).mono ?_; rintro e w4 ⟨v6, rfl, ho, hb⟩; obtain ⟨A6, c6, rfl⟩ := Kd.R_slice ho; have HO6 := Aside0.mk ho; have HB4 := Aside0.mk (below_step HB3.out hb); have HO6L := Aside0.mk (Kd.R_lower ho (below_size HB3.out)); clear ho hb HOX) | (go_at_call 92; refine (HOY.out _ HB4.out).mono ?_; rintro e w5 ⟨v7, rfl, ho, hb⟩; obtain ⟨A7, c7, rfl⟩ := Kd.R_slice ho; have HO7 := Aside0.mk (Kd.R_lower ho (below_size HB4.out)); have HB5 := Aside0.mk (below_step HB4.out hb); have HO6M := Aside0.mk (Kd.R_below HO6L.out hb); clear ho hb) | (go_at_call 93; refine (HE.out _).mono ?_; rintro e w6 ⟨v8, rfl, ho, hb⟩; have HS := Aside0.mk ho; have HB6 := Aside0.mk hb; clear ho hb))
                      obtain ⟨g8, c8, rfl, hg8, _⟩ := Kd.S_form HS.out (by have := HX.out.1; omega)
                      rw [hm01] at HS ⊢
                      have HCX5 := Aside0.mk (Kd.R_reads' HO6M.out).2.2
                      have HC6 := Aside0.mk (Kd.R_reads' HO6M.out).2.1
                      go_loopw [37] (fun v37 wq => ∃ (i : Int) (m : List (List S62)), v37 = .int .i64 i ∧ 0 ≤ i ∧ i ≤ (ox.length : Int) ∧ Aside0 (m.length = l0.length ∧ ∀ r ∈ m, r.length = l0.length) ∧ Aside0 (putL m (ox.drop i.toNat) i = putL m0 ox 0) ∧ Aside0 (Kd.S kMx 52 wq w5.heap.size (fun _ => True) (.slice (some ⟨g8, 0, none⟩) l0.length c8) m) ∧ Aside0 (Below w5.heap.size w5 wq)) (fun v37 _ => ox.length - (intOf v37).toNat)
                      case atStart => exact ⟨0, m0, rfl, Int.le_refl _, by omega, ⟨⟨hm01, HM0.out⟩⟩, ⟨rfl⟩, HS, HB6⟩
                      case round =>
                        clear HS HB6
                        obtain ⟨i, m, rfl, hi0, hil, HSQ, HPL, HS, HB⟩ := hrel
                        by_cases hlt : i < (ox.length : Int)
                        · have k1 : decide (i < (ox.length : Int)) = true := decide_eq_true hlt
                          obtain ⟨ad9, e9, hx9⟩ := Kd.at_int (Kd.C_below HCX5.out HB.out) i hi0 hlt
                          subst e9
                          obtain ⟨j, hj⟩ : ∃ j, rd ox i = j := ⟨_, rfl⟩
                          have hj2 := HI0.out _ (rdI_mem hi0 hlt)
                          rw [hj] at hx9 hj2
                          have HJ := Aside0.mk hj2
                          have HJE := Aside0.mk hj
                          have HI := Aside0.mk (show 0 ≤ i ∧ i < (l0.length : Int) from ⟨hi0, by omega⟩)
                          clear hj2 hj
                          go_wp2
                          have HSd := Aside0.mk (Kd.S_drew HS.out)
                          have HBd := Aside0.mk (below_drew1 HB.out)
                          clear HS HB
                          obtain ⟨gi, ci, _, _, hxh, _⟩ := S_put_T62 HSd.out i j HI.out.1 (by have := HSQ.out.1; have := HI.out.2; omega) HJ.out.1 (by rw [HSQ.out.2 _ (rd5_mem HI.out.1 (by have := HSQ.out.1; have := HI.out.2; omega))]; exact HJ.out.2)
                          rw [HSQ.out.2 _ (rd5_mem HI.out.1 (by have := HSQ.out.1; have := HI.out.2; omega))] at hxh
                          have p1 := eq_true HI.out.1
                          have p2 := eq_true HI.out.2
                          have p3 := eq_true HJ.out.1
                          have p4 := eq_true HJ.out.2
                          have HW := Aside0.mk (fun W => shares_whole.calls 1 1 1 W rfl)
                          refine start_ (n := 8) (S := fun w' => w'.cell? ⟨g8, i.toNat, none⟩ = some (.slice (some ⟨gi, 0, none⟩) l0.length ci)) (ds := [7]) #[false, false, false, false, false, false, false, false] (by kernel_rfl) rfl rfl hxh (fun hHeld => ?_); refine with_tabW mxp.tab10 mxp.bits10 (fun HT_ HW_ => ?_)
                          clear hxh
                          generalize wr.drew = wz at HSd HBd hHeld ⊢
                          refine pure_ (i := 0) (N := some 42) (v := ?_) (a' := ?_) #[true, false, false, false, false, false, false, false] rfl rfl (any_of HT_.out (by kernel_rfl)) (fun _ _ _ h => h) (Or.inl ⟨by rfl, ?_⟩) ?_ ?_
                          rotate_left
                          · intro w'
                            go_simp
                            with_reducible rfl
                          rotate_left
                          · simp only [Act.put, List.setIfInBounds_toArray, List.set_cons_zero, List.set_cons_succ, i64_w, i32_w]
                            rfl
                          refine pure_ (i := 1) (N := some 43) (v := ?_) (a' := ?_) #[true, true, false, false, false, false, false, false] rfl rfl (any_of HT_.out (by kernel_rfl)) (fun _ _ _ h => h) (Or.inl ⟨by rfl, ?_⟩) ?_ ?_
                          rotate_left
                          · intro w'
                            go_simp
                            with_reducible rfl
                          rotate_left
                          · simp only [Act.put, List.setIfInBounds_toArray, List.set_cons_zero, List.set_cons_succ, i64_w, i32_w]
                            rfl
                          refine pure_ (i := 4) (N := some 46) (v := ?_) (a' := ?_) #[true, true, false, false, true, false, false, false] rfl rfl (any_of HT_.out (by kernel_rfl)) (fun _ _ _ h => h) (Or.inl ⟨by rfl, ?_⟩) ?_ ?_
                          rotate_left
                          · intro w'
                            go_simp
                            with_reducible rfl
                          rotate_left
                          · simp only [Act.put, List.setIfInBounds_toArray, List.set_cons_zero, List.set_cons_succ, i64_w, i32_w]
                            rfl
                          refine pure_ (i := 2) (N := some 44) (v := ?_) (a' := ?_) #[true, true, true, false, true, false, false, false] rfl rfl (any_of HT_.out (by kernel_rfl)) (fun _ _ _ h => h) (Or.inl ⟨by rfl, ?_⟩) ?_ ?_
                          rotate_left
                          · intro w'
                            go_simp
                            with_reducible rfl
                          rotate_left
                          · simp only [Act.put, List.setIfInBounds_toArray, List.set_cons_zero, List.set_cons_succ, i64_w, i32_w]
                            rfl
                          refine take_ (i := 3) (N := some 45) (v := ?_) (a' := ?_) #[true, true, true, true, true, false, false, false] rfl rfl (take_ofW HT_.out HW_.out (by kernel_rfl)) (fun _ _ _ h => h) (Or.inl ⟨by rfl, ?_⟩) hHeld ?_ ?_
                          rotate_left
                          · rintro w' s0
                            go_simp
                            with_reducible rfl
                          rotate_left
                          · simp only [Act.put, List.setIfInBounds_toArray, List.set_cons_zero, List.set_cons_succ, i64_w, i32_w]
                            rfl
                          refine one_ (i := 5) (N := some 47) #[true, true, true, true, true, true, false, false] rfl rfl (one_of HT_.out (by kernel_rfl)) (by decide) (fun K hK => ?_)
                          refine goes_ Try.func94 (by kernel_rfl) rfl #[.int .i64 1] (by rfl) rfl rfl (by (try simp only [List.map_toArray, List.map_cons, List.map_nil]); first | done | rfl) ?_
                          refine (HW.out wz).mono ?_
                          rintro e w8 ⟨rfl, hb⟩
                          refine ⟨_, rfl, ?_⟩
                          have HS := Aside0.mk (Kd.S_below HSd.out hb)
                          have HB := Aside0.mk (below_step HBd.out hb)
                          refine hK.out _ _ ((hb.cell (World.block_lt_of_cell? _ _ hHeld)).trans hHeld) (fun hHeld => ?_)
                          clear hK K hb HSd HBd
                          refine norm_ (a' := ?_) ?_ ?_
                          rotate_left
                          · show Act.put _ (some 47) _ = _
                            simp only [Act.put, List.setIfInBounds_toArray, List.set_cons_zero, List.set_cons_succ, i64_w, i32_w]
                            rfl
                          refine pure_ (i := 6) (N := some 48) (v := ?_) (a' := ?_) #[true, true, true, true, true, true, true, false] rfl rfl (any_of HT_.out (by kernel_rfl)) (fun _ _ _ h => h) (Or.inl ⟨by rfl, ?_⟩) ?_ ?_
                          rotate_left
                          · intro w'
                            go_simp
                            with_reducible rfl
                          rotate_left
                          · simp only [Act.put, List.setIfInBounds_toArray, List.set_cons_zero, List.set_cons_succ, i64_w, i32_w]
                            rfl
                          refine last_ (i := 7) (N := none) #[true, true, true, true, true, true, true, true] rfl rfl (one_of HT_.out (by kernel_rfl)) (by decide) (fun K hK => ?_)
                          obtain ⟨gj, cj, u0, u1, hxh, hx0, hx1, hf0, hf1, hgb, hgl, hgn, hput⟩ := S_put_T62 HS.out i j HI.out.1 (by have := HSQ.out.1; have := HI.out.2; omega) HJ.out.1 (by rw [HSQ.out.2 _ (rd5_mem HI.out.1 (by have := HSQ.out.1; have := HI.out.2; omega))]; exact HJ.out.2)
                          obtain rfl : gi = gj := by
                            have := hHeld.symm.trans hxh
                            injection this with this
                            injection this with this _ _
                            injection this with this
                            injection this with this _ _
                          have HPUT := Aside0.mk (hput wOne)
                          have HGB := Aside0.mk hgb
                          clear hput hgb
                          refine skip_ (w1 := ?_) (by rfl) rfl ?_ ?_
                          rotate_left
                          · go_simp
                            rfl
                          refine hK.out _ _ ?_
                          clear hK K
                          refine done_ (done_of HT_.out (by kernel_rfl)) ?_
                          go_wp2
                          have hwr : wrap64 (i + 1) = i + 1 := by have := HI.out; have := HX.out; unfold wrap64; omega
                          rw [hwr]
                          go_roundw
                          case rel => exact ⟨i + 1, m.set i.toNat ((rd_L5 m i).set j.toNat wOne), rfl, by have := HI.out; omega, by have := HI.out; omega, ⟨sq_set HSQ.out (by rw [List.length_set]; exact HSQ.out.2 _ (rd5_mem HI.out.1 (by have := HSQ.out.1; have := HI.out.2; omega)))⟩, ⟨by have h9 := HPL.out; rw [rdropI ox i HI.out.1 (by have := HI.out.2; omega), putL, HJE.out] at h9; exact h9⟩, HPUT, ⟨below_set (below_set HB.out HGB.out) HGB.out⟩⟩
                          case measure => have := HI.out; simp [intOf]; omega
                        · have k1 : decide (i < (ox.length : Int)) = false := decide_eq_false hlt
                          obtain rfl : i = (ox.length : Int) := by omega
                          have hm1 := HPL.out
                          rw [Int.toNat_natCast, List.drop_length, putL] at hm1
                          subst hm1
                          rename World => W2
                          have HMR := Aside0.mk (Kd.R_lower (Kd.S_R HS.out) (below_size HB5.out))
                          have HO7r := Aside0.mk (Kd.R_below HO7.out HB.out)
                          have HBw := Aside0.mk (below_step HB5.out HB.out)
                          clear HS HB HPL HO7 HO6M HO6L HO6 HCX5 HOY hlt
                          go_wp2_with (first | (go_at_call 95; refine (HFX.out _ HBw.out).mono ?_; rintro e w9 ⟨v11, rfl, ho, hb⟩; obtain ⟨A11, c11, rfl⟩ := Kd.R_slice ho; have HO11 := Aside0.mk ho; have HB9 := Aside0.mk (below_step HBw.out hb); have HB9r := Aside0.mk hb; clear ho hb HFX) | (go_at_call 95; refine (HFY.out _ HB9.out).mono ?_; rintro e w10 ⟨v54, rfl, ho, hb⟩; obtain ⟨A12, c12, rfl⟩ := Kd.R_slice ho; have HO12 := Aside0.mk ho; have HB10 := Aside0.mk (below_step HB9.out hb); have HB10r := Aside0.mk (below_step HB9r.out hb); have HO11b := Aside0.mk (Kd.R_below HO11.out hb); clear ho hb HFY) | (go_at_call 73; refine (shares_gives.calls k A11 c11 fx A12 c12 fy gs _ (Kd.R_reads' HO11b.out).2.2 (Kd.R_reads' HO11b.out).2.1 (Kd.R_reads' HO12.out).2.2 (Kd.R_reads' HO12.out).2.1 HGS.out).mono ?_; rintro e w11 ⟨vg, rfl, ho, hb⟩; obtain ⟨Ag, cg, rfl⟩ := Kd.R_slice ho; have HG := Aside0.mk (Kd.R_lower ho (below_size HB10.out)); have HB11 := Aside0.mk (below_step HB10.out hb); have HB11r := Aside0.mk (below_step HB10r.out hb); have HO11c := Aside0.mk (Kd.R_below HO11b.out hb); clear ho hb))
                          have HMS := Aside0.mk (MxS.start HMR.out HO7r.out HO11c.out HG.out HB11.out HB11r.out)
                          clear HMR HO7r HO11c HG HB11 HB11r HO11 HO11b HO12 HB10 HB10r HB9 HB9r
                          have HMX0 := Aside0.mk (show mixL k l0.length (gs.drop (0 : Int).toNat) (putL m0 ox 0) fx = some mm from HMX.out)
                          have HBL := HBw
                          generalize putL m0 ox 0 = mq at *
                          go_loopw [8, 57] (fun v8 v57 wq => ∃ (A8 : Option Addr) (c8 : Nat) (i : Int) (m : List (List S62)) (now : List Int), v8 = .slice A8 l0.length c8 ∧ v57 = .int .i64 i ∧ 0 ≤ i ∧ i ≤ (gs.length : Int) ∧ Aside0 (mixL k l0.length (gs.drop i.toNat) m now = some mm) ∧ Aside0 (MxS w W2 wq (.slice A8 l0.length c8) (.slice A11 fx.length c11) (.slice Ag gs.length cg) (.slice A7 oy.length c7) m now gs oy)) (fun _ v57 _ => gs.length - (intOf v57).toNat)
                          case atStart => exact ⟨_, _, 0, mq, fx, rfl, rfl, Int.le_refl _, by omega, HMX0, HMS⟩
                          case round =>
                            clear HMS HMX0
                            obtain ⟨A8, cm, i, m, now, rfl, rfl, hi0, hil, HMX1, HMS⟩ := hrel
                            by_cases hlt : i < (gs.length : Int)
                            · have k2 : decide (i < (gs.length : Int)) = true := decide_eq_true hlt
                              obtain ⟨adg, eg, hg0, hg1, hg2⟩ := at_T77 (Kd.R_reads' HMS.out.G).2.2 i hi0 (by omega)
                              subst eg
                              obtain ⟨g, hge⟩ : ∃ g, g = rd_T77 gs i := ⟨_, rfl⟩
                              have hmx := HMX1.out
                              rw [rdropG gs i hi0 hlt, ← hge, mixL] at hmx
                              rw [← hge] at hg0 hg1 hg2
                              by_cases hcd : okM l0.length m = true ∧ now.length = l0.length ∧ 0 ≤ g.f0 ∧ g.f0 < (l0.length : Int) ∧ 0 ≤ g.f1 ∧ g.f1 < (l0.length : Int) ∧ g.f0 ≠ g.f1
                              rotate_left
                              · rw [if_neg hcd] at hmx; cases hmx
                              rw [if_pos hcd] at hmx
                              obtain ⟨hok, hnl, -, -, -, -, hne⟩ := hcd
                              obtain ⟨hml, hsq⟩ := okM_at hok
                              cases haf : shares_mixture_after.f k m g.f0 g.f1 g.f2 now with
                              | none => rw [haf] at hmx; cases hmx
                              | some m' =>
                                rw [haf] at hmx
                                dsimp only at hmx
                                cases hdo : shares_Give_do.f g.f0 g.f1 g.f2 now with
                                | none => rw [hdo] at hmx; cases hmx
                                | some q =>
                                  rw [hdo] at hmx
                                  dsimp only at hmx
                                  have hm'l := (okM_at (mixL_ok hmx)).1
                                  have HMX2 := Aside0.mk hmx
                                  have HI := Aside0.mk (show 0 ≤ i ∧ i < (gs.length : Int) from ⟨hi0, hlt⟩)
                                  have HDO := Aside0.mk hdo
                                  obtain ⟨wz, hwz⟩ : ∃ wz, wz = wr.alloc (.cells #[.int .i64 g.f0, .int .i64 g.f1, .int .i64 g.f2] 77) := ⟨_, rfl⟩
                                  have hbz : Below wr.heap.size wr wz := by rw [hwz]; exact below_alloc (Below.refl _ _) _
                                  have hbk : wz.heap[wr.heap.size]? = some (.cells #[.int .i64 g.f0, .int .i64 g.f1, .int .i64 g.f2] 77 (0, 0)) := by rw [hwz]; exact heap_alloc_new wr _
                                  have hz := HMS.out.below hbz
                                  have hMr := Kd.R_reads' hz.M
                                  have hNr := Kd.R_reads' hz.N
                                  have hAF := shares_mixture_after.calls k A8 cm m g.f0 g.f1 g.f2 A11 c11 now m' wz w.heap.size (by rw [← hMr.1]; exact Kd.R_mono hz.M (fun _ _ => trivial)) (by have := HX.out; omega) (by have := HX.out; omega) (by rw [hml]; exact hsq) hne hMr.2.2 (by have := hMr.1; have := hMr.2.1; omega) hNr.2.2 (by have := hNr.1; have := hNr.2.1; omega) haf
                                  rw [← hMr.1, ← hNr.1] at hAF
                                  have HAF := Aside0.mk hAF
                                  have HZ := Aside0.mk hz
                                  have HWZ := Aside0.mk hwz
                                  have HBK := Aside0.mk hbk
                                  have HML := Aside0.mk hm'l
                                  clear hAF hz hwz hbk hMr hNr hbz hmx haf hdo hok hnl hne hsq hml HMX1 HMS hge hm'l
                                  go_wp2_with (first | (go_at_call 96; rw [← HWZ.out]; refine (HAF.out).mono ?_; rintro e w12 ⟨v', rfl, hS, hb⟩; have hM' := R_of_hy (below_size HZ.out.B) rfl hb hS; obtain ⟨A8', c8', rfl⟩ := Kd.R_slice hM'; rw [HML.out] at hM' ⊢; have HZ2 := Aside0.mk ((HZ.out.below hb).mat hM'); have hbk := blk_below HBK.out hb; have hx0 : w12.cell? ⟨wr.heap.size, 0, none⟩ = some (.int .i64 g.f0) := (blk_cell hbk 0).trans rfl; have hx1 : w12.cell? ⟨wr.heap.size, 1, none⟩ = some (.int .i64 g.f1) := (blk_cell hbk 1).trans rfl; have hx2 : w12.cell? ⟨wr.heap.size, 2, none⟩ = some (.int .i64 g.f2) := (blk_cell hbk 2).trans rfl; have HSZ12 := Aside0.mk hb; clear hb hS hM' hbk) | (go_at_call 74; refine (shares_Give_do.calls g.f0 g.f1 g.f2 (fun k_ => some k_ = (Value.slice A11 fx.length c11).ownBlock) (.slice A11 fx.length c11) now q.1 q.2 W2 _ HZ2.out.B2 HZ2.out.N HDO.out).mono ?_; rintro e w13 ⟨rfl, hN, hB, hK⟩; have HZ3 := Aside0.mk (HZ2.out.gone hN hB HBL.out hK); clear hN hB hK))
                                  have hwr : wrap64 (i + 1) = i + 1 := by have := HI.out; have := HGL.out; unfold wrap64; omega
                                  rw [hwr]
                                  go_roundw
                                  case rel => exact ⟨A8', c8', i + 1, m', q.2, rfl, rfl, by have := HI.out; omega, by have := HI.out; omega, ⟨HMX2.out⟩, HZ3⟩
                                  case measure => have := HI.out; simp [intOf]; omega
                            · have k2 : decide (i < (gs.length : Int)) = false := decide_eq_false hlt
                              obtain rfl : i = (gs.length : Int) := by omega
                              have hmx := HMX1.out
                              rw [Int.toNat_natCast, List.drop_length, mixL] at hmx
                              have hok : okM l0.length m = true := by
                                by_cases h2 : okM l0.length m = true
                                · exact h2
                                · rw [if_neg h2] at hmx; cases hmx
                              rw [if_pos hok] at hmx
                              obtain rfl : m = mm := Option.some.inj hmx
                              obtain ⟨hml, hsq⟩ := okM_at hok
                              rename World => W3
                              have hM3 := Kd.R_mono (Kd.R_bound HMS.out.M) (ok' := fun k => k < W3.heap.size) (fun _ hk => hk.2.2.1)
                              rw [← hml] at hM3
                              obtain ⟨gm, cm', em, _⟩ := Kd.R_form hM3 (by have := HX.out; omega)
                              rw [em] at hM3
                              have hT := Kd.R_mono (Kd.R_bound HMS.out.T) (ok' := fun k => k < W3.heap.size) (fun _ hk => hk.2.2.1)
                              have HM3 := Aside0.mk hM3
                              have HT3 := Aside0.mk (Kd.R_reads' hT).2.2
                              have HB3w := Aside0.mk HMS.out.B
                              rw [hml] at em
                              injection em with em1 _ em3
                              subst em1 em3
                              clear HMX1 HMS hmx hM3 hT hok hlt
                              have HML := Aside0.mk hml
                              go_wp2_with (first | ((with_reducible refine gate_dst (N := 71) rfl ?_); refine Kd.R_make (Kd.slice 62 k62) _ 52 rfl (N := 71) rfl 88 _ _ rfl (l0.length : Int) rfl rfl Try.underlying88 (.slice none 0 0) 24 info52 rfl (by decide) (by omega) [] (ok := fun _ => True) (okp := fun _ => True) ⟨_, rfl, Kd.R_nil _ _ _ _ _⟩ (fun _ hk => hk) trivial (by omega) (by have := HX.out; omega) (Below.refl _ _) (Nat.le_refl _) ?_; intro v14 w14 ho hb hg_ hnew_; clear hg_ hnew_; rw [Int.toNat_natCast] at ho; obtain ⟨go, co, rfl, hgo, _⟩ := Kd.R_form ho (by rw [List.length_replicate]; have := HX.out; omega); rw [List.length_replicate] at ho ⊢; have HO := Aside0.mk (Kd.R_lower ho (below_size HB3w.out)); have HB := Aside0.mk hb; have HGO := Aside0.mk hgo; clear ho hb hgo))
                              go_loopw [74] (fun v74 wq => ∃ (i : Int) (o : List (List S62)), v74 = .int .i64 i ∧ 0 ≤ i ∧ i ≤ (oy.length : Int) ∧ Aside0 (outL m o (oy.drop i.toNat) i = r) ∧ Aside0 (kMx.R 52 wq w.heap.size (fun _ => True) (.slice (some ⟨go, 0, none⟩) l0.length co) o) ∧ Aside0 (Below W3.heap.size W3 wq)) (fun v74 _ => oy.length - (intOf v74).toNat)
                              case atStart => exact ⟨0, _, rfl, Int.le_refl _, by omega, ⟨HRES.out⟩, HO, HB⟩
                              case round =>
                                clear HO HB
                                obtain ⟨i, o, rfl, hi0, hil, HOU, HO, HB⟩ := hrel
                                by_cases hlt : i < (oy.length : Int)
                                · have k3 : decide (i < (oy.length : Int)) = true := decide_eq_true hlt
                                  obtain ⟨ad7, e7, hx7⟩ := Kd.at_int (Kd.C_below HT3.out HB.out) i hi0 hlt
                                  subst e7
                                  obtain ⟨j, hj⟩ : ∃ j, rd oy i = j := ⟨_, rfl⟩
                                  have hj2 := HI1.out _ (rdI_mem hi0 hlt)
                                  rw [hj] at hx7 hj2
                                  obtain ⟨hj0, hjn⟩ := hj2
                                  have him : i < (l0.length : Int) := by omega
                                  have hM := Kd.R_below HM3.out HB.out
                                  obtain ⟨cmi, hcm1, hMM, hcm, _⟩ := Kd.R_elem hM ([] : List S62) i hi0 (by have := HML.out; omega)
                                  obtain ⟨vm, rfl, hRv⟩ := hMM
                                  obtain ⟨Av, cv, rfl⟩ := Kd.R_slice hRv
                                  have hxm := hcm 0 _ rfl
                                  simp only [show kMx.sz = 1 from rfl, Nat.mul_one, Nat.add_zero] at hxm
                                  obtain ⟨coj, hco1, _, hcoc, hcof⟩ := Kd.R_elem HO.out ([] : List S62) j hj0 hjn
                                  obtain ⟨uo, rfl⟩ : ∃ uo, coj = [uo] := by
                                    match coj, hco1 with
                                    | [u], _ => exact ⟨u, rfl⟩
                                  have hsg := (Kd.R_seg HO.out j hj0 hjn (c := [uo]) rfl hcoc (seg := [_]) (j := 0) (Nat.le_refl _) (x' := rd_L5 m i) (okp := fun k => k < W3.heap.size ∧ k ≠ gm) ⟨_, rfl, hRv⟩ (fun k hk => ⟨trivial, fun e => by have := HGO.out; omega⟩)).1
                                  have hxo := hcoc 0 _ rfl
                                  have hfo := hcof 0
                                  simp only [show kMx.sz = 1 from rfl, Nat.mul_one, Nat.add_zero] at hxo hfo hsg
                                  have hrl : (m.getD i.toNat ([] : List S62)).length = l0.length := hsq _ (rd5_mem hi0 (by have := HML.out; omega))
                                  rw [hrl] at hxm hsg
                                  have HSG := Aside0.mk hsg
                                  clear hrl
                                  have HJ := Aside0.mk hj
                                  clear hsg hcoc hcof hcm hM hRv hj hcm1 hco1
                                  go_wp2
                                  have hwr : wrap64 (i + 1) = i + 1 := by have := HX.out; unfold wrap64; omega
                                  rw [hwr]
                                  go_roundw
                                  case rel => exact ⟨i + 1, o.set j.toNat (rd_L5 m i), rfl, by omega, by omega, ⟨by have h9 := HOU.out; rw [rdropI oy i hi0 hlt, outL, HJ.out] at h9; exact h9⟩, HSG, ⟨below_set HB.out HGO.out⟩⟩
                                  case measure => simp [intOf]; omega
                                · have k3 : decide (i < (oy.length : Int)) = false := decide_eq_false hlt
                                  obtain rfl : i = (oy.length : Int) := by omega
                                  have hr := HOU.out
                                  rw [Int.toNat_natCast, List.drop_length, outL] at hr
                                  subst hr
                                  go_wp2
                                  go_ret2
                                  exact ⟨_, rfl, HO.out, below_step HB3w.out HB.out⟩
theorem mixL_mono (k n : Nat) : ∀ gs m now, LeO (mixL k n gs m now) (mixL (k + 1) n gs m now)
  | [], m, now, r, h => h
  | g :: gs, m, now, r, h => by
    rw [mixL] at h ⊢
    by_cases hc : okM n m = true ∧ now.length = n ∧ 0 ≤ g.f0 ∧ g.f0 < (n : Int) ∧ 0 ≤ g.f1 ∧ g.f1 < (n : Int) ∧ g.f0 ≠ g.f1
    · rw [if_pos hc] at h ⊢
      cases haf : shares_mixture_after.f k m g.f0 g.f1 g.f2 now with
      | none => rw [haf] at h; cases h
      | some m' =>
        rw [haf] at h
        rw [shares_mixture_after.mono _ _ _ _ _ _ _ haf]
        dsimp only at h ⊢
        cases hdo : shares_Give_do.f g.f0 g.f1 g.f2 now with
        | none => rw [hdo] at h; cases h
        | some q => rw [hdo] at h; exact mixL_mono k n gs m' q.2 r h
    · rw [if_neg hc] at h; cases h
theorem xMixg_mono (k : Nat) (x y : List Int) : LeO (xMix.g k x y) (xMix.g (k + 1) x y) := by
  intro r h
  unfold xMix.g at h ⊢
  by_cases hc : okX x = true ∧ okX y = true ∧ y.length = x.length ∧ okI x.length (orderF x) = true ∧ okI x.length (orderF y) = true
  · rw [if_pos hc] at h ⊢
    cases he : shares_empty.f k x.length with
    | none => rw [he] at h; cases h
    | some m0 =>
      rw [he] at h
      rw [shares_empty.mono _ _ _ he]
      dsimp only at h ⊢
      by_cases hm : okM x.length m0 = true
      · rw [if_pos hm] at h ⊢
        cases hfx : xFalling.f x with
        | none => rw [hfx] at h; cases h
        | some fx =>
          rw [hfx] at h
          dsimp only at h ⊢
          cases hfy : xFalling.f y with
          | none => rw [hfy] at h; cases h
          | some fy =>
            rw [hfy] at h
            dsimp only at h ⊢
            cases hg : shares_gives.f k fx fy with
            | none => rw [hg] at h; cases h
            | some gs =>
              rw [hg] at h
              rw [shares_gives.mono _ _ _ _ hg]
              dsimp only at h ⊢
              by_cases hl : gs.length ≤ 1000
              · rw [if_pos hl] at h ⊢
                cases hx : mixL k x.length gs (putL m0 (orderF x) 0) fx with
                | none => rw [hx] at h; cases h
                | some mm => rw [hx] at h; rw [mixL_mono _ _ _ _ _ _ hx]; exact h
              · rw [if_neg hl] at h; cases h
      · rw [if_neg hm] at h; cases h
  · rw [if_neg hc] at h; cases h
theorem xMix.mono : ∀ a0 a1 k, LeO (xMix.f k a0 a1) (xMix.f (k + 1) a0 a1) := by
  intro a0 a1 k r h
  unfold xMix.f at h ⊢
  cases ha : shares_are.f k [a0, a1] with
  | none => rw [ha] at h; cases h
  | some a =>
    rw [ha] at h
    rw [shares_are.mono _ _ _ ha]
    dsimp only at h ⊢
    by_cases hc : a = true
    · rw [if_pos hc] at h ⊢
      cases hu : shares_uneven.f k a0 a1 with
      | none => rw [hu] at h; cases h
      | some u =>
        rw [hu] at h
        rw [shares_uneven.mono _ _ _ _ hu]
        dsimp only at h ⊢
        by_cases hc2 : u = true
        · rw [if_pos hc2] at h ⊢
          cases hg : xMix.g k a0 a1 with
          | none => rw [hg] at h; cases h
          | some q => rw [hg] at h; rw [xMixg_mono _ _ _ _ hg]; exact h
        · rw [if_neg hc2] at h ⊢; exact h
    · rw [if_neg hc] at h ⊢; exact h
end Go.Proofs.Ytefmafbbnkkpjaa.X
