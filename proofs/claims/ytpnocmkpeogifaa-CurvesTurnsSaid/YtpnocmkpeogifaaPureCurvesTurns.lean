/- CurvesTurns: values at rising points change their sign at most as often as the poles. -/
import Derived.Test.YtpnocmkpeogifaaXf10
import Derived.Test.YtpnocmkpeogifaaSU
import Derived.Test.YtpnocmkpeogifaaSP
namespace Go.Proofs.Ytpnocmkpeogifaa.Pure
set_option linter.unusedVariables false
set_option linter.unusedSimpArgs false
open Go.RowKit Go.Proofs.Ytpnocmkpeogifaa.X Go.Proofs.YtpnocmkpeogifaaW.PrintWords Go.Proofs.YtpnocmkpeogifaaW.PrintLast

/-- the knots of a curve, and greater ones behind -/
def Kx (d : Nat) (K P : List Int) (i : Nat) : Rat := if i ≤ P.length + d then (kn K i : Rat) else 13
def Px (P : List Int) (i : Nat) : Rat := LR P (min i (P.length - 1))
theorem kx_mono {d : Nat} {K P : List Int} (V : VP d K P) (i i' : Nat) (h : i ≤ i') : Kx d K P i ≤ Kx d K P i' := by
  unfold Kx
  by_cases c : i' ≤ P.length + d
  · rw [if_pos (by omega), if_pos c]
    exact Rat.intCast_le_intCast.mpr (kn_le V.mono i i' h)
  · rw [if_neg c]
    split
    · have := (V.h0 i).2
      have := Rat.intCast_le_intCast.mpr (show kn K i ≤ 13 by omega)
      exact this
    · exact Rat.le_refl
theorem kx_lo {d : Nat} {K P : List Int} {i : Nat} (h : i ≤ P.length + d) : Kx d K P i = (kn K i : Rat) := if_pos h
theorem vs_vr {d : Nat} {K P : List Int} {t : Rat} {p : Nat} (B : Bs d K P t p) : vr (Kx d K P) (Px P) d p t = vs K P p t d P.length := by
  have pn := B.c.pn
  obtain ⟨m, hm⟩ : ∃ m, P.length = p + 1 + m := ⟨P.length - (p + 1), by omega⟩
  have e := vr_more (Kx d K P) (Px P) d p t m
  rw [← hm] at e
  rw [← e, vs]
  refine sm_congr _ (fun i hi => ?_)
  rw [nbr_eq (Z := kn K) d i (fun m h1 h2 => kx_lo (by omega))]
  unfold Px LR
  rw [Nat.min_eq_left (by omega)]
  grind
theorem on_bs {d : Nat} {K P : List Int} {t : Rat} {p : Nat} (B : Bs d K P t p) : ∃ r, On (Kx d K P) p t r ∧ (r = false → t = (kn K P.length : Rat)) := by
  have pn := B.c.pn
  have pc := B.pc
  have h1 := pc.lo; have h2 := pc.hi; have h3 := Rat.intCast_lt_intCast.mpr pc.lt
  by_cases c : t < (kn K (p + 1) : Rat)
  · refine ⟨true, ?_, fun h => absurd h (by decide)⟩
    unfold On; rw [if_pos rfl, kx_lo (by omega), kx_lo (by omega)]
    exact ⟨h1, c⟩
  · have e : t = (kn K (p + 1) : Rat) := by grind
    refine ⟨false, ?_, fun _ => ?_⟩
    · unfold On; rw [if_neg (by decide), kx_lo (by omega), kx_lo (by omega)]
      exact ⟨by grind, e⟩
    · have hn : t.num = kn K (p + 1) * t.den := by
        rw [e, Rat.num_intCast, Rat.den_intCast]; omega
      have ht := B.c.top hn
      have hd := B.i.y1
      have : kn K (p + 1) = kn K P.length := by
        have h4 : kn K (p + 1) * (t.den : Int) = kn K P.length * t.den := by omega
        exact Int.eq_of_mul_eq_mul_right (by omega) h4
      rw [e, this]
theorem le_top {d : Nat} {K P : List Int} {t : Rat} (I : IP d K P t.num t.den) : t ≤ (kn K P.length : Rat) ∧ (kn K d : Rat) ≤ t ∧ t ≤ 12 := by
  have h1 := I.hi; have h2 := I.lo; have h3 := I.x12
  refine ⟨?_, ?_, ?_⟩
  · rw [Rat.le_iff, Rat.num_intCast, Rat.den_intCast]; simpa using h1
  · rw [Rat.le_iff, Rat.num_intCast, Rat.den_intCast]; simpa using h2
  · have : t ≤ ((12 : Int) : Rat) := by rw [Rat.le_iff, Rat.num_intCast, Rat.den_intCast]; simpa using h3
    exact this
/-- the sign of a value -/
def sgi (v : Rat) : Int := mx (-1) (mn 1 v.num)
theorem sgi_bd (v : Rat) : -1 ≤ sgi v ∧ sgi v ≤ 1 := by unfold sgi mx mn; constructor <;> (repeat' split) <;> omega
theorem sgi_sg (v : Rat) (s : Bool) : SgI s (sgi v) → Sg s v := by
  intro h
  cases s
  · simp only [SgI, Sg] at *
    have : v.num < 0 := by unfold sgi mx mn at h; simp at h; (repeat' split at h) <;> omega
    exact (Rat.lt_iff _ _).mpr (by simpa using this)
  · simp only [SgI, Sg] at *
    have : 0 < v.num := by unfold sgi mx mn at h; simp at h; (repeat' split at h) <;> omega
    exact (Rat.lt_iff _ _).mpr (by simpa using this)
def sgs (V : Nat → Rat) (n : Nat) : List Int := (List.range n).map fun i => sgi (V i)
theorem sgs_len (V : Nat → Rat) (n : Nat) : (sgs V n).length = n := by simp [sgs]
theorem sgs_lr {V : Nat → Rat} {n i : Nat} (h : i < n) : LR (sgs V n) i = (sgi (V i) : Rat) := by
  unfold LR sgs rd
  simp [List.getD_eq_getElem?_getD, List.getElem?_map, List.getElem?_range h]
theorem sgs_succ {V W : Nat → Rat} {n : Nat} (h : ∀ i, i < n → W i = V i) : sgs W (n + 1) = sgs V n ++ [sgi (W n)] := by
  unfold sgs
  rw [List.range_succ, List.map_append, List.map_singleton]
  congr 1
  exact List.map_congr_left (fun i hi => by rw [h i (List.mem_range.mp hi)])
/-- the points that were taken, and their values -/
structure Acc (d : Nat) (K P : List Int) (n : Nat) (t V : Nat → Rat) (lx ly : Int) : Prop where
  pt : ∀ i, i < n → IP d K P (t i).num (t i).den
  val : ∀ i, i < n → ∃ p, Bs d K P (t i) p ∧ V i = vs K P p (t i) d P.length
  up : ∀ i i', i < i' → i' < n → t i < t i'
  last : (n = 0 ∧ lx = -1 ∧ ly = 1) ∨ (0 < n ∧ lx = (t (n - 1)).num ∧ ly = (t (n - 1)).den)
theorem Acc.few {d : Nat} {K P : List Int} {n : Nat} {t V : Nat → Rat} {lx ly : Int} (h : Acc d K P n t V lx ly) (v : VP d K P) : chg 0 (sgs V n) ≤ chg 0 P := by
  obtain ⟨c, hc⟩ : ∃ c, chg 0 (sgs V n) = c := ⟨_, rfl⟩
  cases c with
  | zero => omega
  | succ c =>
    have hn := v.hn
    obtain ⟨s, C⟩ := chg_ch0 (sgs V n) (sgs V n).length 0 (by omega) c (by rw [List.drop_zero]; exact hc)
    have C2 : Ch (fun i => if i < n then V i else 0) (c + 1) s 0 := by
      refine ch_map (A := LR (sgs V n)) (fun i _ m => m = i) (fun i s hs => ⟨i, rfl, ?_⟩) (fun i s m i' s' m' hi h1 h2 => by omega) (c + 1) s 0 C 0 (fun _ _ _ _ _ => Nat.zero_le _)
      by_cases hi : i < n
      · rw [sgs_lr hi] at hs
        simp only [if_pos hi]
        exact sgi_sg _ _ ((sgi_iff _ _).mp hs)
      · rw [lr_out (by rw [sgs_len]; omega)] at hs
        cases s <;> simp [Sg] at hs
    have C3 : Ch (Px P) (c + 1) s 0 := by
      refine turns (d := d) (K := Kx d K P) (E := 0) (kx_mono v) ⟨P.length + d + 1, by unfold Kx; rw [if_neg (by omega)]; decide⟩ ((List.range n).map t) ?_ (fun i => if i < n then V i else 0) t n (fun i hi => List.mem_map.mpr ⟨i, List.mem_range.mpr hi, rfl⟩) (fun i hi => if_neg (by omega)) h.up ?_ (c + 1) s C2
      · intro x hx
        obtain ⟨i, hi, rfl⟩ := List.mem_map.mp hx
        obtain ⟨_, a2, a3⟩ := le_top (h.pt i (List.mem_range.mp hi))
        exact ⟨by rw [kx_lo (by omega)]; exact a2, a3⟩
      · intro i hi
        obtain ⟨p, B, e⟩ := h.val i hi
        obtain ⟨r, o, hr⟩ := on_bs B
        refine ⟨p, r, o, B.c.dp, ?_, fun e2 m hm => ?_⟩
        · simp only [if_pos hi]
          rw [e]; exact vs_vr B
        · rw [hr e2]; exact (le_top (h.pt m hm)).1
    have C4 : Ch (LR P) (c + 1) s 0 := by
      refine ch_map (A := Px P) (fun i _ m => m = min i (P.length - 1)) (fun i s hs => ⟨_, rfl, hs⟩) (fun i s m i' s' m' hi h1 h2 => by omega) (c + 1) s 0 C3 0 (fun _ _ _ _ _ => Nat.zero_le _)
    have := (ch_chg P P.length 0 (by omega) 0 (c + 1) s C4).1
    rw [List.drop_zero] at this
    omega
theorem Acc.more {d : Nat} {K P : List Int} {n : Nat} {t V : Nat → Rat} {lx ly : Int} (h : Acc d K P n t V lx ly) {u : Rat} {p : Nat} (B : Bs d K P u p) (hl : n = 0 ∨ t (n - 1) < u) :
    Acc d K P (n + 1) (fun i => if i = n then u else t i) (fun i => if i = n then vs K P p u d P.length else V i) u.num u.den := by
  refine ⟨fun i hi => ?_, fun i hi => ?_, fun i i' h1 h2 => ?_, .inr ⟨by omega, ?_, ?_⟩⟩
  · by_cases e : i = n
    · simp only [if_pos e]; exact B.i
    · simp only [if_neg e]; exact h.pt i (by omega)
  · by_cases e : i = n
    · simp only [if_pos e]; exact ⟨p, B, rfl⟩
    · simp only [if_neg e]; exact h.val i (by omega)
  · have e : i ≠ n := by omega
    by_cases e' : i' = n
    · simp only [if_neg e, if_pos e']
      have hl2 : t (n - 1) < u := by
        rcases hl with h0 | h0
        · omega
        · exact h0
      by_cases e3 : i = n - 1
      · rw [e3]; exact hl2
      · have := h.up i (n - 1) (by omega) (by omega)
        grind
    · simp only [if_neg e, if_neg e']; exact h.up i i' h1 (by omega)
  · simp
  · simp
theorem Acc.lb {d : Nat} {K P : List Int} {n : Nat} {t V : Nat → Rat} {lx ly : Int} (h : Acc d K P n t V lx ly) : -1 ≤ lx ∧ lx ≤ 144 ∧ 1 ≤ ly ∧ ly ≤ 12 := by
  rcases h.last with ⟨h1, h2, h3⟩ | ⟨h1, h2, h3⟩
  · omega
  · have I := h.pt (n - 1) (by omega)
    have a := I.x0; have b := I.x12; have c := I.y1; have e := I.y12
    omega
theorem Acc.less {d : Nat} {K P : List Int} {n : Nat} {t V : Nat → Rat} {lx ly : Int} (h : Acc d K P n t V lx ly) {u : Rat} (I : IP d K P u.num u.den) :
    congouref04_Less.f lx ly u.num u.den = some (decide (n = 0 ∨ t (n - 1) < u)) := by
  obtain ⟨l1, l2, l3, l4⟩ := h.lb
  have a := I.x0; have b := I.x12; have c := I.y1; have e := I.y12
  have m1 : (lx * (u.den : Int)).natAbs ≤ 4000 := natAbs_mul_le (A := 144) (B := 12) (by omega) (by omega) (by omega)
  have m2 : (u.num * ly).natAbs ≤ 4000 := natAbs_mul_le (A := 144) (B := 12) (by omega) (by omega) (by omega)
  unfold congouref04_Less.f
  rw [w64a m1 (by omega), w64a m2 (by omega)]
  congr 1
  refine decide_eq_decide.mpr ?_
  rcases h.last with ⟨h1, h2, h3⟩ | ⟨h1, h2, h3⟩
  · rw [h2, h3]
    constructor
    · exact fun _ => .inl h1
    · intro _; omega
  · rw [h2, h3, ← Rat.lt_iff]
    constructor
    · exact fun h => .inr h
    · rintro (h | h)
      · omega
      · exact h
theorem turns_l0 {d : Nat} {K P : List Int} (v : VP d K P) (L : List S26) (hL : L.length ≤ 20) : ∀ (m q i n : Nat) (t V : Nat → Rat) (lx ly : Int), i + m = L.length → Rk (q - 3 * m) → Acc d K P n t V lx ly → n ≤ i →
    congoulaw04_CurvesTurns.l0 q (chg 0 P : Int) (sgs V n) L (L.length : Int) (i : Int) (d : Int) K P lx ly = some true := by
  have h8 := v.h8
  obtain ⟨e1, e2⟩ := vp_len v
  intro m
  induction m with
  | zero =>
    intro q i n t V lx ly hi hq A hni
    have hb := hq.b
    obtain ⟨q, rfl⟩ : ∃ m, q = m + 1 := ⟨q - 1, by omega⟩
    have few := A.few v
    rw [congoulaw04_CurvesTurns.l0, if_neg (by omega), changes_f (by rw [sgs_len]; omega) (by omega) ?_, Option.bind_some, if_pos rfl, if_pos (by simpa using few), awake_f (by omega), Option.bind_some]
    intro x hx
    obtain ⟨i, _, rfl⟩ := List.mem_map.mp hx
    have := sgi_bd (V i)
    omega
  | succ m ih =>
    intro q i n t V lx ly hi hq A hni
    have hb := hq.b
    have hqa := hq.a
    obtain ⟨q, rfl⟩ : ∃ m, q = m + 1 + 1 + 1 := ⟨q - 3, by omega⟩
    have hq1 : Rk (q - 3 * m) := by rw [show q - 3 * m = q + 1 + 1 + 1 - 3 * (m + 1) by omega]; exact hq
    have hq0 : Rk (q - 3 * m + 3 * m) := ⟨Nat.le_trans hq1.a (by omega), Nat.le_trans hq1.b (by omega)⟩
    have hqq : Rk q := by rw [show q = q - 3 * m + 3 * m by have := hq1.b; omega]; exact hq0
    have hq2 : Rk (q + 1 + 1) := ⟨Nat.le_trans hqq.a (by omega), Nat.le_trans hqq.b (by omega)⟩
    have hg : KG ≤ q + 1 + 1 := Nat.le_trans (by decide) hq2.a
    have hg1 : KG ≤ q + 1 := by have := hqq.a; omega
    have hqb := hqq.b
    obtain ⟨x, hx⟩ : ∃ x, x = (rd_T26 L (i : Int)).f0 := ⟨_, rfl⟩
    obtain ⟨y, hy⟩ := (⟨_, rfl⟩ : ∃ y, y = (rd_T26 L (i : Int)).f1)
    rw [congoulaw04_CurvesTurns.l0, if_pos (by omega), if_pos (by omega), if_pos (by omega), of_law, Option.bind_some, ← hx, ← hy]
    dsimp only
    rw [e1, e2]
    by_cases hip : IP d K P x y
    · obtain ⟨u, p, e3, e4, B⟩ := bs_of v hip
      have vt := value_top hq2 B
      have A2 := fun h => A.more B h
      rw [e3, e4] at vt
      have hless := A.less B.i
      rw [e3, e4] at hless
      rw [vt, Option.bind_some]
      dsimp only
      rw [if_pos rfl, in_f hg v, dc_true hip, Option.bind_some, congoulaw04_CurvesTurns.j1, if_neg (by decide), hless, Option.bind_some, w64 (by omega) (by omega), show (i : Int) + 1 = ((i + 1 : Nat) : Int) by omega]
      by_cases hl : n = 0 ∨ t (n - 1) < u
      · rw [decide_eq_true hl, if_pos rfl, if_pos (by rw [sgs_len]; omega)]
        have A3 := A2 hl
        rw [e3, e4] at A3
        have hq4 : Rk (q + 1 - 3 * m) := ⟨Nat.le_trans hq1.a (by omega), Nat.le_trans hq1.b (by omega)⟩
        have IH := ih (q + 1) (i + 1) (n + 1) _ _ x y (by omega) hq4 A3 (by omega)
        rw [sgs_succ (V := V) (n := n) (fun i hi => if_neg (by omega))] at IH
        simp only [if_true] at IH
        exact IH
      · rw [decide_eq_false hl, if_neg (by decide)]
        have hq4 : Rk (q + 1 - 3 * m) := ⟨Nat.le_trans hq1.a (by omega), Nat.le_trans hq1.b (by omega)⟩
        exact ih (q + 1) (i + 1) n t V lx ly (by omega) hq4 A (by omega)
    · have hbad : ¬ (VPI d K P ∧ IPI d K P x y) := by
        rintro ⟨_, d', e, h⟩
        obtain rfl : d = d' := by omega
        exact hip h
      rw [value_bad hq2 (by omega) hbad, Option.bind_some]
      dsimp only
      rw [if_neg (by decide), congoulaw04_CurvesTurns.j1, if_pos rfl, if_pos rfl, in_f hg1 v, dc_false hip, Option.bind_some, congoulaw04_CurvesTurns.j2, if_neg (by decide), w64 (by omega) (by omega), show (i : Int) + 1 = ((i + 1 : Nat) : Int) by omega]
      exact ih q (i + 1) n t V lx ly (by omega) hq1 A (by omega)
theorem CurvesTurns (a0_0 : Int) (l0_1 : List Int) (l0_2 : List Int) (l1 : List (S26)) (h0_ : (Lit.int .i64 a0_0).wf = true) (h1_ : l0_1.length ≤ maxLen) (h2_ : (∀ x ∈ l0_1, (Lit.int .i64 x).wf = true)) (h3_ : l0_2.length ≤ maxLen) (h4_ : (∀ x ∈ l0_2, (Lit.int .i64 x).wf = true)) (h5_ : l1.length ≤ maxLen) (h6_ : (∀ x ∈ l1, ((Lit.int .i64 x.f0).wf = true ∧ (Lit.int .i64 x.f1).wf = true))) : ∃ k, congoulaw04_CurvesTurns.f k a0_0 l0_1 l0_2 l1 = some true := by
  obtain ⟨k, hk⟩ : ∃ k, Rk k := ⟨_, rk_any⟩
  have hk1 : Rk (k + 60) := ⟨Nat.le_trans hk.a (by omega), Nat.le_trans hk.b (by omega)⟩
  refine ⟨k + 60, ?_⟩
  have hP : l0_2.length ≤ 9223372036854775807 := by unfold maxLen at h3_; omega
  have hT : (l0_2.take 23).length ≤ 9223372036854775807 := by rw [List.length_take]; omega
  have hb := hk.b
  have aw := awake_f (k := k + 60) (by omega)
  have hkg : KG ≤ k + 60 := Nat.le_trans (by decide) hk1.a
  unfold congoulaw04_CurvesTurns.f
  rw [list_f, Option.bind_some]
  by_cases hv : VPI a0_0 l0_1 l0_2
  · have hvv := hv
    obtain ⟨d, rfl, V⟩ := hv
    obtain ⟨e1, e2⟩ := vp_len V
    have h8 := V.h8
    have hm : 0 ≤ mn (l1.length : Int) 20 ∧ mn (l1.length : Int) 20 ≤ l1.length ∧ mn (l1.length : Int) 20 ≤ 20 := by unfold mn; split <;> omega
    rw [e2, changes_f (by omega) (by omega) V.hP, Option.bind_some, rvalid_f hkg hP, dc_true hvv, Option.bind_some, if_pos rfl, if_pos rfl, if_pos hm.1, if_pos hm.2.1, Option.bind_some]
    have hl : (l1.take (mn (l1.length : Int) 20).toNat).length ≤ 20 := by rw [List.length_take]; omega
    have A : Acc d l0_1 l0_2 0 (fun _ => 0) (fun _ => 0) (-1) 1 := ⟨fun i hi => absurd hi (by omega), fun i hi => absurd hi (by omega), fun i i' h1 h2 => absurd h2 (by omega), .inl ⟨rfl, rfl, rfl⟩⟩
    exact turns_l0 V _ hl (l1.take (mn (l1.length : Int) 20).toNat).length (k + 60) 0 0 _ _ (-1) 1 (by omega) ⟨Nat.le_trans hk.a (by omega), Nat.le_trans hk.b (by omega)⟩ A (Nat.le_refl _)
  · have hvt : ¬ VPI a0_0 (l0_1.take 23) (l0_2.take 23) := fun c => hv (vpi_take.mp c)
    have em : curves_Means.f (k + 60) a0_0 (l0_1.take 23) (l0_2.take 23) = some ([], 2) := by
      unfold curves_Means.f
      rw [valid_f hkg hT, dc_false hvt, Option.bind_some, if_neg (by decide)]
    have hch : ∃ r, curves_Changes.f (k + 60) (l0_2.take 23) = some r := by
      by_cases hbad : (l0_2.take 23).length > 20 ∨ ∃ x, x ∈ l0_2.take 23 ∧ badx x
      · have j0 : curves_Changes.j0 (k + 60) (l0_2.take 23) true = some (0, 2) := by
          rw [curves_Changes.j0, if_pos rfl]
        refine ⟨(0, 2), ?_⟩
        unfold curves_Changes.f
        by_cases h1 : ((l0_2.take 23).length : Int) > 20
        · rw [if_pos h1, j0]
        · rw [if_neg h1, contains_f (by rw [List.length_take]; omega) (by rw [List.length_take]; omega), dc_true (by rcases hbad with h | h; omega; exact h), Option.bind_some, j0]
      · refine ⟨_, changes_f (by omega) (by omega) (fun x hx => ?_)⟩
        refine Classical.byContradiction fun hn => hbad (.inr ⟨x, hx, ?_⟩)
        unfold badx; omega
    obtain ⟨r, er⟩ := hch
    rw [er, Option.bind_some, rvalid_f hkg hP, dc_false hv, Option.bind_some, if_neg (by decide), of_law, Option.bind_some]
    dsimp only
    rw [em, Option.bind_some, if_pos rfl, aw, Option.bind_some]
end Go.Proofs.Ytpnocmkpeogifaa.Pure
