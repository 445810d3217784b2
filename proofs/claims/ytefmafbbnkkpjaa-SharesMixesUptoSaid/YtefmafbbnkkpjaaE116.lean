/- A matrix some of whose rows are one's own and the others another's, as they stand; the walk of slices.Clone at such. -/
import Derived.Test.YtefmafbbnkkpjaaXG1a
namespace Go.Proofs.Ytefmafbbnkkpjaa.X
open Go.RowKit Go.Proofs.YtefmafbbnkkpjaaW.PrintWords Go.Proofs.YtefmafbbnkkpjaaW.PrintLast Go.Proofs.YtefmafbbnkkpjaaW.PrintMore
set_option linter.unusedVariables false
set_option linter.unusedSimpArgs false

abbrev kMx : Kd (List S62) := Kd.slice 62 k62
/-- a row of one's own, or one of n elements that another has -/
def hyF (n : Nat) (Q : Value → List S62 → Prop) : Kd (List S62) where
  sz := 1
  E := kMx.E
  K := fun w xs cs => kMx.K w xs cs ∨ (xs.length = n ∧ ∃ v, cs = [v] ∧ v.oneCell' = true ∧ Q v xs)
  M := fun w base ok xs cs => kMx.M w base ok xs cs ∨ (xs.length = n ∧ ∃ v, cs = [v] ∧ v.oneCell' = true ∧ Q v xs)
  K_len := by
    rintro w x cs (h | ⟨_, v, rfl, _⟩)
    · exact kMx.K_len h
    · rfl
  K_one := by
    rintro w x cs (h | ⟨_, v, rfl, h, _⟩) u hu
    · exact kMx.K_one h u hu
    · rw [List.mem_singleton.1 hu]; exact h
  K_below := fun hb h => h.imp (fun h => kMx.K_below hb h) id
  K_of_M := fun h => h.imp (fun h => kMx.K_of_M h) id
  M_mono := fun hok h => h.imp (fun h => kMx.M_mono hok h) id
  M_bound := fun h => h.imp (fun h => kMx.M_bound h) id
  M_move := fun hm h => h.imp (fun h => kMx.M_move hm h) id
  M_lower := fun hb h => h.imp (fun h => kMx.M_lower hb h) id
theorem hy_M {n : Nat} {Q : Value → List S62 → Prop} {w : World} {base : Nat} {ok : Nat → Prop} {xs : List S62} {cs : List Value} (h : (hyF n Q).M w base ok xs cs) (hn : xs.length ≠ n) : kMx.M w base ok xs cs := h.resolve_right fun h2 => hn h2.1
theorem hy_K {n : Nat} {Q : Value → List S62 → Prop} {w : World} {xs : List S62} {cs : List Value} (h : (hyF n Q).K w xs cs) (hn : xs.length ≠ n) : kMx.K w xs cs := h.resolve_right fun h2 => hn h2.1
theorem hy_cell {n : Nat} {Q : Value → List S62 → Prop} {w : World} {base : Nat} {ok : Nat → Prop} {xs : List S62} {cs : List Value} (h : (hyF n Q).M w base ok xs cs) : ∃ v, cs = [v] := by
  have := (hyF n Q).K_len ((hyF n Q).K_of_M h)
  match cs, this with
  | [v], _ => exact ⟨v, rfl⟩
theorem at_hy {w : World} {A : Option Addr} {m n : Nat} {Q : Value → List S62 → Prop} {xs : List (List S62)} (h : Kd.C (hyF m Q) w A n xs) (i : Int) (h0 : 0 ≤ i) (h1 : i < n) (hl : (rd_L5 xs i).length ≠ m) :
    ∃ ad A0 c0, A = some ad ∧ w.cell? (ad.add i.toNat) = some (.slice A0 (rd_L5 xs i).length c0) ∧ (rd_L5 xs i).length ≤ c0 ∧ k62.C w A0 (rd_L5 xs i).length (rd_L5 xs i) := by
  obtain ⟨ad, c, e, _, hK, hc0⟩ := Kd.C_get h ([] : List S62) i h0 h1
  have hc : ∀ j u, c[j]? = some u → w.cell? (ad.add (i.toNat * 1 + j)) = some u := hc0
  obtain ⟨A0, c0, rfl, l0, g0⟩ := hy_K hK hl
  exact ⟨ad, A0, c0, e, by have hq := hc 0 _ rfl; rwa [Nat.mul_one, Nat.add_zero] at hq, l0, g0⟩
/-- the cells of a row's headers -/
theorem heads {w : World} {b0 c0 : Nat} {A0 : Option Addr} {l : List (List S62)} (h : kMx.R 52 w b0 (fun _ => True) (.slice A0 l.length c0) l) :
    ∃ hs : List Value, hs.length = l.length ∧ (Kd.raw 1).C w A0 l.length (hs.map fun v => [v]) ∧ ∀ (j : Nat) (hj : j < l.length) (hj2 : j < hs.length), kMx.M w b0 (fun _ => True) l[j] [hs[j]] := by
  obtain ⟨_, hle, hC⟩ := Kd.R_reads' h
  obtain ⟨_, inner, ho, hr⟩ := h
  have hil : inner.length = l.length := by have := hr.1; rwa [show kMx.sz = 1 from rfl, Nat.mul_one] at this
  have hat : ∀ (j : Nat) (hj : j < inner.length), (inner.drop (j * 1)).take 1 = [inner[j]] := fun j hj => by
    rw [Nat.mul_one, List.drop_eq_getElem_cons hj]; rfl
  have hM : ∀ (j : Nat) (hj : j < l.length) (hj2 : j < inner.length), kMx.M w b0 (fun _ => True) l[j] [inner[j]] := fun j hj hj2 => by
    have := hr.2 j _ (List.getElem?_eq_getElem hj)
    rw [show kMx.sz = 1 from rfl, hat j hj2] at this
    exact kMx.M_mono (fun _ _ => trivial) this
  refine ⟨inner, hil, ?_, hM⟩
  refine ⟨by rw [List.length_map, hil], hC.2.1, fun hp => ?_⟩
  obtain ⟨ad, e, _⟩ := hC.2.2 (by simpa [hil] using hp)
  refine ⟨ad, e, fun j p hj => ?_⟩
  subst e
  rw [List.getElem?_map] at hj
  obtain ⟨q, hq, rfl⟩ := Option.map_eq_some_iff.1 hj
  have hjl := (List.getElem?_eq_some_iff.1 hq).1
  have hq2 : inner[j] = q := (List.getElem?_eq_some_iff.1 hq).2
  have h1 := kMx.K_one (kMx.K_of_M (hM j (by omega) hjl))
  refine ⟨[q], rfl, ⟨rfl, rfl, fun u hu => by rw [List.mem_singleton.1 hu, ← hq2]; exact h1 _ (by simp)⟩, fun i u hu => ?_⟩
  have hi : i = 0 := by
    have := (List.getElem?_eq_some_iff.1 hu).1
    simpa using this
  subst hi
  have hu : q = u := by simpa using hu
  subst hu
  rcases ho.2 with ⟨hv, _⟩ | ⟨g, cap, cur, hv, _⟩
  · cases hv
  · injection hv with hb _ _
    injection hb with hb
    subst hb
    rw [show (Kd.raw 1).sz = 1 from rfl, Nat.mul_one, Nat.add_zero]
    exact ho.cells rfl j q hq
def Qh (w : World) (b0 : Nat) (v : Value) (xs : List S62) : Prop := kMx.M w b0 (fun _ => True) xs [v]
/-- rows that are another's, as they stand -/
theorem S_of_raw {w w' : World} {base b0 : Nat} {v : Value} {l : List (List S62)} {hs : List Value} (hl : hs.length = l.length) (hQ : ∀ (j : Nat) (hj : j < l.length) (hj2 : j < hs.length), Qh w b0 hs[j] l[j]) (hsq : ∀ r ∈ l, r.length = l.length)
    (h : (Kd.raw 1).R 52 w' base (fun _ => True) v (hs.map fun v => [v])) : Kd.S (hyF l.length (Qh w b0)) 52 w' base (fun _ => True) v l := by
  obtain ⟨h0, inner, ho, hr⟩ := h
  rw [List.length_map, hl] at ho
  have hil : inner.length = l.length := by have := hr.1; rwa [List.length_map, hl, show (Kd.raw 1).sz = 1 from rfl, Nat.mul_one] at this
  refine ⟨fun _ => 0, fun _ _ => trivial, inner, by rw [List.length_zipIdx]; exact ho, by rw [List.length_zipIdx, hil]; exact (Nat.mul_one _).symm, fun j p hp => ?_⟩
  rw [List.getElem?_zipIdx, Nat.zero_add] at hp
  obtain ⟨q, hq, rfl⟩ := Option.map_eq_some_iff.1 hp
  obtain ⟨hjl, hq2⟩ := List.getElem?_eq_some_iff.1 hq
  have hjh : j < hs.length := by omega
  have hM := hr.2 j [hs[j]] (by rw [List.getElem?_map, List.getElem?_eq_getElem hjh]; rfl)
  have hc : (inner.drop (j * 1)).take 1 = [hs[j]] := hM.1
  refine .inr ⟨?_, hs[j], hc, hM.2.2 _ (by rw [hM.1]; simp), ?_⟩
  · show q.length = l.length
    rw [← hq2]; exact hsq _ (List.getElem_mem hjl)
  · show Qh w b0 hs[j] q
    rw [← hq2]; exact hQ j hjl hjh
/-- .. and back: rows of both kinds are rows -/
theorem R_of_hy {w w' : World} {base b0 n : Nat} {v : Value} {r : List (List S62)} (hb0 : b0 ≤ base) (hbw : base = w.heap.size) (hb : Below w.heap.size w w') {ok : Nat → Prop} (h : Kd.S (hyF n (Qh w b0)) 52 w' base ok v r) : kMx.R 52 w' b0 (fun _ => True) v r := by
  have hR := Kd.S_R h
  obtain ⟨h0, inner, ho, hr⟩ := hR
  have hbs : ∀ k, v.ownBlock = some k → base ≤ k := Kd.S_base h
  refine ⟨fun _ _ => trivial, inner, own_weaken ho hb0, hr.1, fun j p hp => ?_⟩
  rcases hr.2 j p hp with hM | ⟨_, v1, hc, _, hQ⟩
  · exact kMx.M_mono (fun k hk => ⟨trivial, hk.2⟩) (kMx.M_lower hb0 hM)
  · show kMx.M w' b0 _ p ((inner.drop (j * 1)).take 1)
    have hc' : (inner.drop (j * 1)).take 1 = [v1] := hc
    rw [hc']
    have h1 := kMx.M_bound hQ
    refine kMx.M_mono (fun k hk => ⟨trivial, fun e => ?_⟩) (Kd.M_step h1 (fun k hk hlt => hb.block k hlt))
    have h2 := hbs k e.symm
    have h3 := hk.2.2.1
    omega
def xCloneM.f (l : List (List S62)) : Option (List (List S62)) := some l
set_option maxHeartbeats 2000000 in
set_option maxRecDepth 100000 in
/-- slices.Clone at a matrix -/
theorem cloneM_calls (ad : Addr) (c0 : Nat) (l0 : List (List S62)) (hl : l0.length ≤ 1000) (hsq : ∀ r ∈ l0, r.length = l0.length) (w0 w : World) (b0 : Nat) (hm : kMx.R 52 w0 b0 (fun _ => True) (.slice (some ad) l0.length c0) l0) (hbw : Below w0.heap.size w0 w) :
    Calls Try.prog 116 #[.slice (some ad) l0.length c0] w fun e w' => ∃ v0_ : Value, e = .returned v0_ ∧ Kd.S (hyF l0.length (Qh w0 b0)) 52 w' w.heap.size (fun _ => True) v0_ l0 ∧ Below w.heap.size w w' := by
  obtain ⟨hs, hhl, hC0, hQ⟩ := heads hm
  have hC := Kd.C_below hC0 hbw
  have HC := Aside0.mk hC
  have HB := ak (Below.refl w.heap.size w)
  have hnil : ∀ W, (binOp .eql 88 (.slice (some ad) l0.length c0) (.slice none 0 0)).run Try.prog W = .ok (.bool false) W := fun W => api_Frac_52.nileq W _ _ _ _ _ Try.underlying88
  clear hC0 hC hm
  go_enter Try.func116, Try.ntmps116
  go_wp2_with (first | ((with_reducible refine gate_dst (N := 5) rfl ?_); refine Kd.R_lit (Kd.raw 1) _ 52 ?hg (N := 5) ?hd (xs := ([] : List (List Value))) (inner := []) (ok := fun _ => True) (okp := fun _ => True) ?hr ?hp (fun _ hk => hk) trivial (Below.refl _ _) (Nat.le_refl _) (by simp) ?_; (case hd => rfl); (case hg => rfl); (case hr => first | (go_simp; done) | (go_simp; rfl)); (case hp => exact (Reps.none _ _)); intro v724 w3 ho4 hb hg_ hnew_; clear hg_ hnew_; have HO725 := ak (Kd.R_lower ho4 (below_size (hbC _))); replace HB := kH _ hb; clear hb ho4) | ((with_reducible refine gate_builtin (b := .append) (xs := #[.tmp 5, .tmp 6]) rfl ?_); at_builtin; refine Kd.R_append_rows (Kd.raw 1) (w0 := w) w.heap.size rfl (.tmp 5) (.tmp 6) 88 52 (.slice none 0 0) 24 rfl Try.underlying88 info52 rfl (by decide) (by omega) v724 [] (hs.map fun v => [v]) _ _ _ (fun _ => True) (fun _ => False) rfl rfl ?aO ?aR (fun _ _ h => h) (fun _ h => h.elim) ?aF ?aB ?aS ?aL ?_; (case aR => exact kC HC); (case aB => exact (hbC _)); (case aF => exact (fun _ _ => trivial)); (case aO => exact (rC HO725)); (case aS => exact (below_size (hbC _))); (case aL => show (0 + l0.length) * 24 ≤ 140737488355328; omega); intro v727 w5 ho hb hg hat; rw [List.nil_append] at ho; have n0_ := ak (hb); have n1_ := ak (ho); clear HB; clear HO725; have HB := n0_; have HO728 := n1_; clear n0_ n1_; clear ho hb hg hat))
  go_ret
  exact ⟨_, rfl, S_of_raw hhl (fun j hj hj2 => hQ j hj hj2) hsq (rC HO728), hbC _⟩
end Go.Proofs.Ytefmafbbnkkpjaa.X
