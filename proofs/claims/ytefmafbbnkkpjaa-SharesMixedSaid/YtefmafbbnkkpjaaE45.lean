/- The walk of Split: a permutation of numbers above 0 taken off, again and again. -/
import Derived.Test.YtefmafbbnkkpjaaXG2a
import Derived.Test.YtefmafbbnkkpjaaXf83
import Derived.Test.YtefmafbbnkkpjaaE107
namespace Go.Proofs.Ytefmafbbnkkpjaa.X
open Go.RowKit Go.Proofs.YtefmafbbnkkpjaaW.PrintWords Go.Proofs.YtefmafbbnkkpjaaW.PrintLast Go.Proofs.YtefmafbbnkkpjaaW.PrintMore
attribute [local go_sem] max2_int min2_int max_two min_two max_three min_three max_four min_four   -- for this text's walks alone
set_option linter.unusedVariables false
set_option linter.unusedSimpArgs false

/-- an element of a matrix of one's own: read, and written -/
theorem S_put_int {w : World} {base g n cap : Nat} {ok : Nat → Prop} {L : List (List Int)} (h : Kd.S (Kd.slice 3 (Kd.int .i64)) 22 w base ok (.slice (some ⟨g, 0, none⟩) n cap) L) (i j : Int) (hi0 : 0 ≤ i) (hi : i < L.length) (hj0 : 0 ≤ j) (hj : j < (rd_L1 L i).length) :
    ∃ gi ci, w.cell? ⟨g, i.toNat, none⟩ = some (.slice (some ⟨gi, 0, none⟩) (rd_L1 L i).length ci) ∧ w.cell? ⟨gi, j.toNat, none⟩ = some (.int .i64 (rd (rd_L1 L i) j)) ∧ w.frozen? ⟨gi, j.toNat, none⟩ = false ∧ base ≤ gi ∧ ok gi ∧ gi < w.heap.size ∧
      ∀ x, Kd.S (Kd.slice 3 (Kd.int .i64)) 22 (w.setCell ⟨gi, j.toNat, none⟩ (.int .i64 x)) base ok (.slice (some ⟨g, 0, none⟩) n cap) (L.set i.toNat ((rd_L1 L i).set j.toNat x)) ∧ w.grownBy (w.setCell ⟨gi, j.toNat, none⟩ (.int .i64 x)) (some gi) := by
  have hn := (Kd.S_reads' h).1
  obtain ⟨oki, c, hcl, hM, hcc, hoki, hH⟩ := Kd.S_lend h [] i hi0 (by omega)
  obtain ⟨v, rfl, hR⟩ := hM
  obtain ⟨gi, ci, rfl, hb, hlt, _⟩ := Kd.R_form hR (show 0 < (rd_L1 L i).length by omega)
  obtain ⟨hx, hf⟩ := Kd.R_celln 0 hR j hj0 hj
  have hcell := hcc 0 _ rfl
  simp only [Nat.add_zero, show (Kd.slice 3 (Kd.int .i64)).sz = 1 from rfl, Nat.mul_one] at hcell
  refine ⟨gi, ci, hcell, hx, hf, hb, (hoki gi (hR.1 gi rfl)).1, hlt, fun x => ?_⟩
  obtain ⟨h1, h2⟩ := Kd.R_putg hR j x
  exact ⟨Kd.H_back (Kd.H_grown hH h2 (fun k hk => by injection hk with hk; subst hk; exact hR.1 _ rfl)) ⟨_, rfl, h1⟩ (fun _ hk => hk), h2⟩

def leastL (l : List (List Int)) : List Int → Int → Int → Int
  | [], _, m => m
  | j :: js, i, m => leastL l js (i + 1) (if rd (rd_L1 l i) j < m then rd (rd_L1 l i) j else m)
def subL (m : Int) : List (List Int) → List Int → Int → List (List Int)
  | l, [], _ => l
  | l, j :: js, i => subL m (l.set i.toNat ((rd_L1 l i).set j.toNat (wrap64 (rd (rd_L1 l i) j - m)))) js (i + 1)
def okL (l : List (List Int)) : Bool := decide (1 ≤ l.length) && (decide (l.length ≤ 5) && l.all fun r => decide (r.length ≤ 5))
def okP (l : List (List Int)) (p : List Int) : Bool := decide (p.length = l.length) && (List.range p.length).all fun i => decide (0 ≤ rd p i) && decide (rd p i < (rd_L1 l i).length)
def splitF (k : Nat) (d : Int) : Nat → List (List Int) → Int → List (List Int) → List S62 → Option (List (List Int) × List S62)
  | 0, _, _, _, _ => none
  | n + 1, l, left, all, ws => if 0 < left then (if okL l = true ∧ all.length ≤ 1000 ∧ ws.length ≤ 1000 then (match growF l l.length [] 0 with
      | none => none
      | some p => if okP l p = true then (match shares_frac.f k (leastL l p 0 left) d with
        | none => none
        | some q => splitF k d n (subL (leastL l p 0 left) l p 0) (wrap64 (left - leastL l p 0 left)) (all ++ [p]) (ws ++ [⟨q.1, q.2⟩])) else none) else none)
    else some (all, ws)
def xSplit.f (k : Nat) (m : List (List S62)) : Option (List (List Int) × List S62 × Int) :=
  match shares_read.f k m with
  | none => none
  | some (l, d, ok) => if ok = true then (if okL l = true then (match splitF k d k l d [] [] with
      | none => none
      | some q => some (q.1, q.2, 0)) else none) else some ([], [], 2)
theorem okP_at {l : List (List Int)} {p : List Int} (h : okP l p = true) : p.length = l.length ∧ ∀ i : Int, 0 ≤ i → i < p.length → 0 ≤ rd p i ∧ rd p i < (rd_L1 l i).length := by
  unfold okP at h
  simp only [Bool.and_eq_true, decide_eq_true_eq, List.all_eq_true, List.mem_range] at h
  refine ⟨h.1, fun i h0 h1 => ?_⟩
  have := h.2 i.toNat (by omega)
  rwa [Int.toNat_of_nonneg h0] at this
theorem okL_at {l : List (List Int)} (h : okL l = true) : 1 ≤ l.length ∧ l.length ≤ 5 ∧ ∀ r ∈ l, r.length ≤ 5 := by
  unfold okL at h
  simpa only [Bool.and_eq_true, decide_eq_true_eq, List.all_eq_true] using h
/-- what Split holds -/
structure SpS (X : Nat → Prop) (w W1 wq : World) (gl n cl : Nat) (l : List (List Int)) (v8 : Value) (all : List (List Int)) (v9 : Value) (ws : List S62) : Prop where
  L : Kd.S (Kd.slice 3 (Kd.int .i64)) 22 wq w.heap.size (fun k => k < W1.heap.size) (.slice (some ⟨gl, 0, none⟩) n cl) l
  A : Kd.S (Kd.slice 3 (Kd.int .i64)) 22 wq w.heap.size (fun k => W1.heap.size ≤ k ∧ ¬ X k) v8 all
  V : Kd.R k62 62 wq w.heap.size (fun k => W1.heap.size ≤ k) v9 ws
  B : Below w.heap.size w wq
  sz : W1.heap.size ≤ wq.heap.size
section
variable {X : Nat → Prop} {w W1 wq wr : World} {gl n cl : Nat} {l l' all : List (List Int)} {v8 v9 : Value} {ws : List S62}
theorem SpS.below (h : SpS X w W1 wq gl n cl l v8 all v9 ws) (hb : Below wq.heap.size wq wr) : SpS X w W1 wr gl n cl l v8 all v9 ws :=
  ⟨Kd.S_below h.L hb, Kd.S_below h.A hb, Kd.R_below h.V hb, below_step h.B hb, Nat.le_trans h.sz hb.size⟩
theorem R_elder {α : Type} {d : Kd α} {e b N g : Nat} {v : Value} {xs : List α} (h : d.R e wq b (fun k => N ≤ k) v xs) (hg : wq.grownBy wr (some g)) (hlt : g < N) : d.R e wr b (fun k => N ≤ k) v xs :=
  Kd.R_grown h hg (fun k hk e => by injection e with e; omega)
theorem SpS.put (h : SpS X w W1 wq gl n cl l v8 all v9 ws) {g j : Nat} {u : Value} (hw : wr = wq.setCell ⟨g, j, none⟩ u) (hL : Kd.S (Kd.slice 3 (Kd.int .i64)) 22 wr w.heap.size (fun k => k < W1.heap.size) (.slice (some ⟨gl, 0, none⟩) n cl) l') (hg : wq.grownBy wr (some g)) (hlt : g < W1.heap.size) (hb : w.heap.size ≤ g) : SpS X w W1 wr gl n cl l' v8 all v9 ws := by
  refine ⟨hL, Kd.S_grown h.A hg (fun k hk e => by injection e with e; have := hk.1; omega), R_elder h.V hg hlt, ?_, Nat.le_trans h.sz hg.size⟩
  rw [hw]
  exact below_set h.B hb
theorem SpS.app (h : SpS X w W1 wq gl n cl l v8 all v9 ws) {v : Value} {all' : List (List Int)} (hA : Kd.S (Kd.slice 3 (Kd.int .i64)) 22 wr w.heap.size (fun k => W1.heap.size ≤ k) v all') (hb : Below w.heap.size w wr) (hg : wq.grownBy wr v8.ownBlock) : SpS (fun _ => False) w W1 wr gl n cl l v all' v9 ws :=
  ⟨Kd.S_grown h.L hg (fun k hk e => by have := ((Kd.S_R h.A).1 k e.symm).1; omega), Kd.S_mono hA (fun _ hk => ⟨hk, fun h => h⟩), Kd.R_over' h.V (Kd.S_typed h.A) (by decide) hg, hb, Nat.le_trans h.sz hg.size⟩
/-- a block that is newer is none of those that are held -/
theorem SpS.newer (h : SpS (fun _ => False) w W1 wq gl n cl l v8 all v9 ws) {g : Nat} (hg : wq.heap.size ≤ g) : SpS (fun k => k = g) w W1 wq gl n cl l v8 all v9 ws :=
  ⟨h.L, Kd.S_mono (Kd.S_bound h.A) (fun k hk => ⟨hk.1.1, fun e => by have := hk.2.2.1; omega⟩), h.V, h.B, h.sz⟩
theorem SpS.wts (h : SpS X w W1 wq gl n cl l v8 all v9 ws) {v : Value} {ws' : List S62} (hV : Kd.R k62 62 wr w.heap.size (fun k => W1.heap.size ≤ k) v ws') (hb : Below w.heap.size w wr) (hg : wq.grownBy wr v9.ownBlock) : SpS X w W1 wr gl n cl l v8 all v ws' :=
  ⟨Kd.S_grown h.L hg (fun k hk e => by have := h.V.1 k e.symm; omega), Kd.S_over' h.A (Kd.R_typed h.V) (by decide) hg, hV, hb, Nat.le_trans h.sz hg.size⟩
theorem p_ne {w : World} {base gp n c : Nat} {ok ok' : Nat → Prop} {v8 : Value} {xs : List Int} {ys : List (List Int)} (h : Kd.R (Kd.int .i64) 3 w base ok (.slice (some ⟨gp, 0, none⟩) n c) xs) (h8 : Kd.S (Kd.slice 3 (Kd.int .i64)) 22 w base ok' v8 ys) :
    Kd.R (Kd.int .i64) 3 w base (fun k => k = gp) (.slice (some ⟨gp, 0, none⟩) n c) xs ∧ (∀ k, k = gp → ok k ∧ some k ≠ v8.ownBlock) := by
  refine ⟨Kd.R_mono (Kd.R_tight rfl h) (fun k hk => by injection hk), fun k hk => ?_⟩
  subst hk
  exact (Kd.R_apart' h (Kd.S_typed h8) (by decide)).1 k rfl
end
theorem rows_set {l : List (List Int)} {i : Int} {r : List Int} (h : r.length = (rd_L1 l i).length) (q : Int) : (rd_L1 (l.set i.toNat r) q).length = (rd_L1 l q).length := by
  unfold rd_L1 at *
  rw [List.getD_eq_getElem?_getD, List.getD_eq_getElem?_getD, List.getElem?_set]
  by_cases e : i.toNat = q.toNat
  · rw [if_pos e]
    by_cases hl : i.toNat < l.length
    · rw [if_pos hl, Option.getD_some, h, List.getD_eq_getElem?_getD, e]
    · rw [if_neg hl, ← e, List.getElem?_eq_none (by omega)]
  · rw [if_neg e]
set_option maxHeartbeats 8000000 in
set_option maxRecDepth 100000 in
theorem xSplit.calls (k : Nat) (A0 : Option Addr) (c0 : Nat) (l0 : List (List S62)) (r1 : List (List Int)) (r2 : List S62) (r3 : Int) (w : World) (hr0 : Kd.C (Kd.slice 62 k62) w A0 l0.length l0) (hc0 : l0.length ≤ c0) (h : xSplit.f k l0 = some (r1, r2, r3)) :
    Calls Try.prog 45 #[.slice A0 l0.length c0] w fun e w' => ∃ v0_ v1_ : Value, e = .returned (.tuple #[v0_, v1_, .int .i64 r3]) ∧ Kd.S (Kd.slice 3 (Kd.int .i64)) 22 w' w.heap.size (fun _ => True) v0_ r1 ∧ Kd.R k62 62 w' w.heap.size (fun _ => True) v1_ r2 ∧ Below w.heap.size w w' := by
  unfold xSplit.f at h
  cases hrd : shares_read.f k l0 with
  | none => rw [hrd] at h; cases h
  | some q =>
    obtain ⟨L, D, ok⟩ := q
    rw [hrd] at h
    dsimp only at h
    have HRD := Lib.hid (shares_read.calls k A0 c0 l0 L D ok w hr0 hc0 hrd)
    clear hrd hr0 hc0
    cases ok with
    | false =>
      rw [if_neg (by decide)] at h
      simp only [Option.some.injEq, Prod.mk.injEq] at h
      obtain ⟨rfl, rfl, rfl⟩ := h
      go_enter Try.func45, Try.ntmps45
      go_wp2_with (go_at_call 83; refine (HRD.out).mono ?_; rintro e w' ⟨v, rfl, ho, hb⟩; have HB := Aside0.mk hb; clear ho hb)
      go_ret3
      exact ⟨_, _, rfl, Kd.S_nil _ _ _ _ _, Kd.R_nil _ _ _ _ _, HB.out⟩
    | true =>
      rw [if_pos rfl] at h
      cases hok : okL L with
      | false => rw [hok, if_neg (by decide)] at h; cases h
      | true =>
        rw [hok, if_pos rfl] at h
        cases hsp : splitF k D k L D [] [] with
        | none => rw [hsp] at h; cases h
        | some q =>
          rw [hsp] at h
          dsimp only at h
          simp only [Option.some.injEq, Prod.mk.injEq] at h
          obtain ⟨rfl, rfl, rfl⟩ := h
          have HS := Aside0.mk hsp
          have hL1 : 0 < L.length := (okL_at hok).1
          clear hsp hok
          go_enter Try.func45, Try.ntmps45
          go_wp2_with (go_at_call 83; refine (HRD.out).mono ?_; rintro e w1 ⟨v, rfl, ho, hb⟩; obtain ⟨gl, cl, rfl, _⟩ := Kd.S_form ho hL1; have HB := Aside0.mk hb; have HO := Aside0.mk ho; clear ho hb)
          clear HRD
          have SP0 := Aside0.mk (SpS.mk (X := fun _ => False) (W1 := w1) (v8 := .slice none 0 0) (all := []) (v9 := .slice none 0 0) (ws := []) (Kd.S_mono (Kd.S_bound HO.out) (fun k hk => hk.2.2.1)) (Kd.S_nil _ _ _ _ _) (Kd.R_nil _ _ _ _ _) HB.out (Nat.le_refl _))
          clear HB HO
          go_loopg [8, 9, 10] k (fun kq v8 v9 v10 wq => ∃ (l all : List (List Int)) (ws : List S62) (left : Int), v10 = .int .i64 left ∧ Aside0 (splitF k D kq l left all ws = some q) ∧ Aside0 (kq ≤ k) ∧ Aside0 (SpS (fun _ => False) w w1 wq gl L.length cl l v8 all v9 ws))
          case atStart => exact ⟨L, [], [], D, rfl, HS, ⟨Nat.le_refl _⟩, SP0⟩
          case round =>
            clear HS SP0
            obtain ⟨l, all, ws, left, rfl, HS, HK, SP⟩ := hrel
            cases gk with
            | zero => exact absurd HS.out (by simp [splitF])
            | succ kk =>
              have H := HS.out
              rw [splitF] at H
              clear HS
              by_cases hlf : 0 < left
              · rw [if_pos hlf] at H
                by_cases hok : okL l = true ∧ all.length ≤ 1000 ∧ ws.length ≤ 1000
                · rw [if_pos hok] at H
                  obtain ⟨hok1, hal, hwl⟩ := hok
                  obtain ⟨hl1, hl5, hlr⟩ := okL_at hok1
                  cases hg : growF l l.length [] 0 with
                  | none => rw [hg] at H; cases H
                  | some p =>
                    rw [hg] at H
                    dsimp only at H
                    by_cases hp : okP l p = true
                    · rw [if_pos hp] at H
                      obtain ⟨hpl, hpr⟩ := okP_at hp
                      obtain ⟨m, hm⟩ : ∃ m, leastL l p 0 left = m := ⟨_, rfl⟩
                      rw [hm] at H
                      cases hf : shares_frac.f k m D with
                      | none => rw [hf] at H; cases H
                      | some fq =>
                        obtain ⟨q1, q2⟩ := fq
                        rw [hf] at H
                        dsimp only at H
                        have hn := (Kd.S_reads' SP.out.L).1
                        have HM := match_calls l hl1 hl5 hlr (some ⟨gl, 0, none⟩) cl wr (Kd.S_reads' SP.out.L).2.2
                        rw [hg, ← hn] at HM
                        have HM := Lib.hid HM
                        have HF := Aside0.mk (fun W => shares_frac.calls k m D q1 q2 W hf)
                        have HH := Aside0.mk H
                        have HPR := Aside0.mk hpr
                        have HPL := Aside0.mk hpl
                        have HL5 := Aside0.mk (show p.length ≤ 5 by omega)
                        have HLM := Aside0.mk hm
                        have HN := Aside0.mk hn
                        have HAL := Aside0.mk hal
                        have HWL := Aside0.mk hwl
                        have k0 : decide (left > 0) = true := decide_eq_true hlf
                        clear H hok1 hl1 hl5 hlr hg hp hpr hpl hm hf hn hal hwl hlf
                        go_wp2_with (go_at_call 84; refine (HM.out).mono ?_; rintro e w2 ⟨v11, rfl, hgr, hb⟩; obtain ⟨hgr1, hgr2⟩ := hgr; obtain ⟨gp, cp, rfl, hgpb, _⟩ := Kd.R_form hgr1 (List.length_pos_iff.mpr hgr2); have SP2 := Aside0.mk ((SP.out.newer hgpb).below hb); clear hgpb; have HP := Aside0.mk (Kd.R_mono (ok' := fun k => w1.heap.size ≤ k) (Kd.R_lower (Kd.R_mono (Kd.R_bound hgr1) (fun k hk => Nat.le_trans SP.out.sz hk.2.1)) (below_size SP.out.B)) (fun _ hk => hk)); clear hgr1 hgr2 hb SP)
                        clear HM
                        go_loop [12, 33] (fun v12 v33 => ∃ m' i : Int, v12 = .int .i64 m' ∧ v33 = .int .i64 i ∧ 0 ≤ i ∧ i ≤ (p.length : Int) ∧ Aside0 (leastL l (p.drop i.toNat) i m' = m)) (fun _ v33 => p.length - (intOf v33).toNat)
                        case atStart => exact ⟨left, 0, rfl, rfl, Int.le_refl _, by omega, HLM⟩
                        case round =>
                          clear HLM
                          obtain ⟨m', i, rfl, rfl, hi0, hil, HG⟩ := hrel
                          by_cases hlt : i < (p.length : Int)
                          · have HD := Aside0.mk (rdrop p i hi0 hlt)
                            have k1 : decide (i < (p.length : Int)) = true := decide_eq_true hlt
                            have hx9 : w2.cell? ⟨gp, i.toNat, none⟩ = some (.int .i64 (rd p i)) := (Kd.R_celln 0 HP.out i hi0 hlt).1
                            obtain ⟨hj0, hj1⟩ := HPR.out i hi0 hlt
                            obtain ⟨gi, ci, hx1, hx2, _⟩ := S_put_int SP2.out.L i (rd p i) hi0 (by have := HPL.out; omega) hj0 hj1
                            have GO : Aside0 (leastL l (p.drop (i + 1).toNat) (i + 1) (if rd (rd_L1 l i) (rd p i) < m' then rd (rd_L1 l i) (rd p i) else m') = m) := ⟨by have h9 := HG.out; rw [HD.out, leastL] at h9; exact h9⟩
                            have hin : i < (L.length : Int) := by have := HPL.out; have := HN.out; omega
                            clear HG HD
                            generalize rd_L1 l i = rw_ at *
                            generalize rd p i = j at *
                            generalize rd rw_ j = y at *
                            obtain ⟨z, hz⟩ : ∃ z, (if y < m' then y else m') = z := ⟨_, rfl⟩
                            rw [hz] at GO
                            have hi5 : i < 5 := by have := HL5.out; omega
                            have kx1 := eq_true hi0
                            have kx2 := eq_true hlt
                            have kx3 := eq_true hin
                            have kx4 := eq_true hj0
                            have kx5 := eq_true hj1
                            go_wp2
                            go_round
                            case rel => exact ⟨z, i + 1, rfl, rfl, by omega, by omega, GO⟩
                            case measure => simp [intOf]; omega
                          · have k1 : decide (i < (p.length : Int)) = false := decide_eq_false hlt
                            have hm' : m' = m := by
                              have h9 := HG.out
                              rw [List.drop_of_length_le (by omega)] at h9
                              exact h9
                            subst hm'
                            clear HG
                            go_wp2
                            clear k1 hi0 hil hlt
                            go_loopw [50] (fun v50 wq => ∃ (i : Int) (l' : List (List Int)), v50 = .int .i64 i ∧ 0 ≤ i ∧ i ≤ (p.length : Int) ∧ Aside0 (subL m' l' (p.drop i.toNat) i = subL m' l p 0) ∧ Aside0 (∀ q, (rd_L1 l' q).length = (rd_L1 l q).length) ∧ Aside0 (l'.length = l.length) ∧ Aside0 (Kd.R (Kd.int .i64) 3 wq w.heap.size (fun k => w1.heap.size ≤ k) (.slice (some ⟨gp, 0, none⟩) p.length cp) p) ∧ Aside0 (SpS (fun k => k = gp) w w1 wq gl L.length cl l' u8 all u9 ws)) (fun v50 _ => p.length - (intOf v50).toNat)
                            case atStart => exact ⟨0, l, rfl, Int.le_refl _, by omega, ⟨rfl⟩, ⟨fun _ => rfl⟩, ⟨rfl⟩, HP, SP2⟩
                            case round =>
                              clear HP SP2
                              obtain ⟨i, l', rfl, hi0, hil, HG, HR, HLL, HP, SP⟩ := hrel
                              by_cases hlt : i < (p.length : Int)
                              · have HD := Aside0.mk (rdrop p i hi0 hlt)
                                have k1 : decide (i < (p.length : Int)) = true := decide_eq_true hlt
                                have hx9 : wr.cell? ⟨gp, i.toNat, none⟩ = some (.int .i64 (rd p i)) := (Kd.R_celln 0 HP.out i hi0 hlt).1
                                obtain ⟨hj0, hj1⟩ := HPR.out i hi0 hlt
                                rw [← HR.out] at hj1
                                obtain ⟨gi, ci, hx1, hx2, hf2, hgb, hgo, hglt, hput⟩ := S_put_int SP.out.L i (rd p i) hi0 (by have := HPL.out; have := HLL.out; omega) hj0 hj1
                                have GO : Aside0 (subL m' (l'.set i.toNat ((rd_L1 l' i).set (rd p i).toNat (wrap64 (rd (rd_L1 l' i) (rd p i) - m')))) (p.drop (i + 1).toNat) (i + 1) = subL m' l p 0) := ⟨by have h9 := HG.out; rw [HD.out, subL] at h9; exact h9⟩
                                obtain ⟨hs1, hs2⟩ := hput (wrap64 (rd (rd_L1 l' i) (rd p i) - m'))
                                have SPN := Aside0.mk (SP.out.put rfl hs1 hs2 hgo hgb)
                                have HPN := Aside0.mk (R_elder HP.out hs2 hgo)
                                have HRN := Aside0.mk (fun q => (rows_set (l := l') (i := i) (r := (rd_L1 l' i).set (rd p i).toNat (wrap64 (rd (rd_L1 l' i) (rd p i) - m'))) (by simp) q).trans (HR.out q))
                                have HLN := Aside0.mk (show (l'.set i.toNat ((rd_L1 l' i).set (rd p i).toNat (wrap64 (rd (rd_L1 l' i) (rd p i) - m')))).length = l.length by rw [List.length_set]; exact HLL.out)
                                have hin : i < (L.length : Int) := by have := HPL.out; have := HN.out; omega
                                clear HG HD hs1 hs2 hput HR HLL SP HP hgb hgo hglt
                                generalize (l'.set i.toNat ((rd_L1 l' i).set (rd p i).toNat (wrap64 (rd (rd_L1 l' i) (rd p i) - m')))) = l2 at *
                                generalize rd_L1 l' i = rw_ at *
                                generalize rd p i = j at *
                                generalize rd rw_ j = y at *
                                obtain ⟨z, hz⟩ : ∃ z, wrap64 (y - m') = z := ⟨_, rfl⟩
                                rw [hz] at SPN HPN
                                have hz2 : IntKind.i64.wrap (y - m') = z := (i64_w _).trans hz
                                have hi5 : i < 5 := by have := HL5.out; omega
                                have kx1 := eq_true hi0
                                have kx2 := eq_true hlt
                                have kx3 := eq_true hin
                                have kx4 := eq_true hj0
                                have kx5 := eq_true hj1
                                go_wp2
                                go_roundw
                                case rel => exact ⟨i + 1, l2, rfl, by omega, by omega, GO, HRN, HLN, HPN, SPN⟩
                                case measure => simp [intOf]; omega
                              · have k1 : decide (i < (p.length : Int)) = false := decide_eq_false hlt
                                have hl' : l' = subL m' l p 0 := by
                                  have h9 := HG.out
                                  rw [List.drop_of_length_le (by omega)] at h9
                                  exact h9
                                have HL' := Aside0.mk hl'
                                clear hl' HG HR HLL
                                have hz2 : wrap64 (left - m') = wrap64 (left - m') := rfl
                                clear hz2
                                go_wp2_with (first | ((with_reducible refine gate_builtin (b := .append) (xs := #[.tmp 66, .tmp 68]) rfl ?_); at_builtin; refine Kd.S_append (Kd.slice 3 (Kd.int .i64)) (w0 := w) w.heap.size rfl (.tmp 66) (.tmp 68) 48 22 (.slice none 0 0) 24 rfl Try.underlying48 info22 rfl (by decide) (by omega) u8 all p [.slice (some ⟨gp, 0, none⟩) p.length cp] (fun k => w1.heap.size ≤ k) (fun k => k = gp) rfl rfl ?aP (p_ne HP.out SP.out.A).2 ?aF ?aO ?aB ?aS ?aL ?_; (case aP => exact ⟨_, rfl, (p_ne HP.out SP.out.A).1⟩); (case aB => exact SP.out.B); (case aF => exact (fun k hk => Nat.le_trans SP.out.sz hk)); (case aO => exact SP.out.A); (case aS => exact below_size SP.out.B); (case aL => have := HAL.out; omega); intro v70 w3 ho hb hg hat; have SP3 := Aside0.mk (SP.out.app ho hb hg); clear ho hb hg hat HP SP) | (go_at_call 85; (with_reducible refine (HF.out _).mono ?_); rintro e w4 ⟨rfl, hb⟩; have SP4 := Aside0.mk (SP3.out.below hb); clear hb SP3) | ((with_reducible refine gate_builtin (b := .append) (xs := #[.tmp 70, .tmp 74]) rfl ?_); at_builtin; refine Kd.R_append k62 (w0 := w) w.heap.size rfl (.tmp 70) (.tmp 74) 52 62 (.agg #[(.int .i64 0), (.int .i64 0)]) 16 rfl Try.underlying52 info62 rfl (by decide) (by omega) u9 ws (⟨q1, q2⟩ : S62) [.int .i64 q1, .int .i64 q2] (fun k => w1.heap.size ≤ k) (fun _ => False) rfl (by first | (go_simp; done) | (go_simp; rfl)) ?aP (fun _ hk => hk.elim) ?aF ?aO ?aB ?aS ?aL ?_; (case aP => exact k62_mkM _ _ _ (⟨q1, q2⟩ : S62)); (case aB => exact SP4.out.B); (case aF => exact (fun k hk => Nat.le_trans SP4.out.sz hk)); (case aO => exact SP4.out.V); (case aS => exact below_size SP4.out.B); (case aL => have := HWL.out; omega); intro v71 w5 ho hb hg hat; have SP5 := Aside0.mk (SP4.out.wts ho hb hg); clear ho hb hg hat SP4))
                                go_roundg kk
                                case measure => have := HK.out; omega
                                case rel => exact ⟨subL m' l p 0, all ++ [p], ws ++ [⟨q1, q2⟩], wrap64 (left - m'), rfl, HH, ⟨by have := HK.out; omega⟩, by rw [← HL'.out]; exact SP5⟩
                    · rw [if_neg hp] at H; cases H
                · rw [if_neg hok] at H; cases H
              · rw [if_neg hlf] at H
                obtain rfl := Option.some.inj H
                have k0 : decide (left > 0) = false := decide_eq_false hlf
                clear H hlf
                go_wp2
                go_ret3
                exact ⟨_, _, rfl, Kd.S_mono SP.out.A (fun _ _ => trivial), Kd.R_mono SP.out.V (fun _ _ => trivial), SP.out.B⟩
theorem splitF_mono (k : Nat) (d : Int) : ∀ n l left all ws, LeO (splitF k d n l left all ws) (splitF (k + 1) d (n + 1) l left all ws) := by
  intro n
  induction n with
  | zero => intro l left all ws r h; simp [splitF] at h
  | succ n ih =>
    intro l left all ws r h
    rw [splitF] at h ⊢
    by_cases hlf : 0 < left
    · rw [if_pos hlf] at h ⊢
      by_cases hok : okL l = true ∧ all.length ≤ 1000 ∧ ws.length ≤ 1000
      · rw [if_pos hok] at h ⊢
        cases hg : growF l l.length [] 0 with
        | none => rw [hg] at h; cases h
        | some p =>
          rw [hg] at h
          dsimp only at h ⊢
          by_cases hp : okP l p = true
          · rw [if_pos hp] at h ⊢
            cases hf : shares_frac.f k (leastL l p 0 left) d with
            | none => rw [hf] at h; cases h
            | some q =>
              rw [hf] at h
              rw [shares_frac.mono _ _ _ _ hf]
              exact ih _ _ _ _ r h
          · rw [if_neg hp] at h; cases h
      · rw [if_neg hok] at h; cases h
    · rw [if_neg hlf] at h ⊢; exact h
theorem xSplit.mono : ∀ a0 k, LeO (xSplit.f k a0) (xSplit.f (k + 1) a0) := by
  intro a0 k r h
  unfold xSplit.f at h ⊢
  cases hrd : shares_read.f k a0 with
  | none => rw [hrd] at h; cases h
  | some q =>
    obtain ⟨L, D, ok⟩ := q
    rw [hrd] at h
    rw [shares_read.mono _ _ _ hrd]
    dsimp only at h ⊢
    cases ok with
    | false => exact h
    | true =>
      rw [if_pos rfl] at h ⊢
      cases hok : okL L with
      | false => rw [hok, if_neg (by decide)] at h; cases h
      | true =>
        rw [hok, if_pos rfl] at h
        rw [if_pos rfl]
        cases hsp : splitF k D k L D [] [] with
        | none => rw [hsp] at h; cases h
        | some q => rw [hsp] at h; rw [splitF_mono _ _ _ _ _ _ _ _ hsp]; exact h
end Go.Proofs.Ytefmafbbnkkpjaa.X
