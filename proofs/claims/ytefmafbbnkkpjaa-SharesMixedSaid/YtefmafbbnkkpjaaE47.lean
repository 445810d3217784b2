/- The walk of CheckSplit: the permutations times their weights, added together and compared. -/
import Derived.Test.YtefmafbbnkkpjaaE45
import Derived.Test.YtefmafbbnkkpjaaXf86
namespace Go.Proofs.Ytefmafbbnkkpjaa.X
open Go.RowKit Go.Proofs.YtefmafbbnkkpjaaW.PrintWords Go.Proofs.YtefmafbbnkkpjaaW.PrintLast Go.Proofs.YtefmafbbnkkpjaaW.PrintMore
set_option linter.unusedVariables false
set_option linter.unusedSimpArgs false

/-- five numbers in line -/
abbrev k92 : Kd (List Int) := Kd.arr 5 (Kd.int .i64) (by decide)
theorem info92 : (Try.prog.info? 92).map (fun i => (i.zero, i.size, i.bytes)) = some (some (.agg #[(.int .i64 0), (.int .i64 0), (.int .i64 0), (.int .i64 0), (.int .i64 0)]), 5, 40) := by kernel_rfl
theorem encs_set (l : List Int) (j : Nat) (hj : j < l.length) (x : Int) : (encs (Value.int .i64) l).take j ++ [.int .i64 x] ++ (encs (Value.int .i64) l).drop (j + 1) = encs (Value.int .i64) (l.set j x) := by
  unfold encs
  rw [List.map_set, List.set_eq_take_append_cons_drop, if_pos (by simpa using hj)]
  simp
theorem at_92 {w : World} {base g n cap : Nat} {ok : Nat → Prop} {G : List (List Int)} (h : k92.R 92 w base ok (.slice (some ⟨g, 0, none⟩) n cap) G) (i j : Int) (hi0 : 0 ≤ i) (hi : i < n) (hj0 : 0 ≤ j) (hj : j < 5) :
    w.cell? ⟨g, i.toNat * 5 + j.toNat, none⟩ = some (.int .i64 (rd (rd_L1 G i) j)) ∧ w.frozen? ⟨g, i.toNat * 5 + j.toNat, none⟩ = false ∧ (rd_L1 G i).length = 5 ∧
      ∀ x, k92.R 92 (w.setCell ⟨g, i.toNat * 5 + j.toNat, none⟩ (.int .i64 x)) base ok (.slice (some ⟨g, 0, none⟩) n cap) (G.set i.toNat ((rd_L1 G i).set j.toNat x)) ∧ w.grownBy (w.setCell ⟨g, i.toNat * 5 + j.toNat, none⟩ (.int .i64 x)) (some g) := by
  obtain ⟨c, hcl, hM, hcc, hf⟩ := Kd.R_elem h [] i hi0 hi
  obtain ⟨h5, hce⟩ := Kd.arr_cells (k92.K_of_M hM)
  have e5 : (rd_L1 G i).length = 5 := h5
  have ec : c = encs (Value.int .i64) (rd_L1 G i) := hce
  subst ec
  have hjl : j.toNat < (rd_L1 G i).length := by omega
  refine ⟨hcc j.toNat _ ?_, hf j.toNat, e5, fun x => ?_⟩
  · rw [show encs (Value.int .i64) (rd_L1 G i) = (rd_L1 G i).map (Value.int .i64) from rfl, List.getElem?_map, List.getElem?_eq_getElem hjl]
    simp [rd, List.getD_eq_getElem?_getD, List.getElem?_eq_getElem hjl]
  · exact Kd.R_seg h i hi0 hi (c := encs (Value.int .i64) (rd_L1 G i)) (seg := [.int .i64 x]) (j := j.toNat) hcl hcc (by show j.toNat + 1 ≤ 5; omega) (x' := (rd_L1 G i).set j.toNat x) (okp := fun k => ok k ∧ k ≠ g) (by
      rw [List.length_singleton, encs_set _ _ hjl]
      exact Kd.arr_of_cells (by rw [List.length_set]; exact e5)) (fun _ hk => hk)
theorem C_oneF {w : World} {b : Nat} {A : Option Addr} {c : Nat} {a : List S62} (hb : w.heap[b]? = some (.cells #[.slice A a.length c] 52 (0, 0))) (hr : k62.C w A a.length a) (hc : a.length ≤ c) : Kd.C (Kd.slice 62 k62) w (some ⟨b, 0, none⟩) 1 [a] := by
  refine ⟨rfl, by omega, fun _ => ⟨_, rfl, fun j p hp => ?_⟩⟩
  have hj : j = 0 := by
    have := (List.getElem?_eq_some_iff.mp hp).1
    simp at this
    exact this
  subst hj
  obtain rfl : a = p := by simpa using hp
  refine ⟨[.slice A a.length c], rfl, ⟨A, c, rfl, hc, hr⟩, fun i u hu => ?_⟩
  have hi : i = 0 := by
    have := (List.getElem?_eq_some_iff.mp hu).1
    simp at this
    exact this
  subst hi
  obtain rfl : Value.slice A a.length c = u := by simpa using hu
  exact blk_cell hb 0

def addL (x : Int) : List (List Int) → List Int → Int → List (List Int)
  | G, [], _ => G
  | G, j :: js, i => addL x (G.set i.toNat ((rd_L1 G i).set j.toNat (wrap64 (rd (rd_L1 G i) j + x)))) js (i + 1)
def okQ (n : Int) (q : List Int) : Bool := decide ((q.length : Int) ≤ n) && (decide (n ≤ 5) && (List.range q.length).all fun i => decide (0 ≤ rd q i) && decide (rd q i < 5))
def wgt (all : Int) (ws : List S62) (i : Int) : Int := wrap64 ((rd_T62 ws i).f0 * wrap64 (Int.tdiv all (rd_T62 ws i).f1))
def chkL (k : Nat) (n all : Int) (ws : List S62) : List (List Int) → Int → Int → List (List Int) → Option (Option (Int × List (List Int)))
  | [], _, s, G => some (some (s, G))
  | q :: qs, i, s, G => match shares_isPermutation.f k q n with
    | none => none
    | some b => if b = true then (if (rd_T62 ws i).f0 = 0 then some none else (if (rd_T62 ws i).f1 = 0 then none else (if okQ n q = true then chkL k n all ws qs (i + 1) (wrap64 (s + wgt all ws i)) (addL (wgt all ws i) G q 0) else none))) else some none
def cmpL (d all : Int) (g : List Int) : List Int → Int → Bool
  | [], _ => true
  | x :: xs, j => if wrap64 (rd g j * d) = wrap64 (x * all) then cmpL d all g xs (j + 1) else false
def cmpR (d all : Int) (G : List (List Int)) : List (List Int) → Int → Bool
  | [], _ => true
  | r :: rs, i => if cmpL d all (rd_L1 G i) r 0 = true then cmpR d all G rs (i + 1) else false
def xCheckSplit.f (k : Nat) (m : List (List S62)) (p : List (List Int)) (ws : List S62) : Option (Bool × Int) :=
  match shares_read.f k m with
  | none => none
  | some (l, d, ok) => if ok = true then (if (p.length : Int) = (ws.length : Int) then (if (p.length : Int) > 100 then some (false, 0) else (match shares_mixture_multiple.f k [ws] 10000000 with
      | none => none
      | some (all, ok2) => if ok2 = true then (if okL l = true ∧ m.length = l.length then (match chkL k m.length all ws p 0 0 (List.replicate m.length [0, 0, 0, 0, 0]) with
          | none => none
          | some none => some (false, 0)
          | some (some (s, G)) => if cmpR d all G l 0 = true then some (decide (s = all), 0) else some (false, 0)) else none) else some (false, 0))) else some (false, 0)) else some (false, 2)
theorem okQ_at {n : Int} {q : List Int} (h : okQ n q = true) : (q.length : Int) ≤ n ∧ n ≤ 5 ∧ ∀ i : Int, 0 ≤ i → i < q.length → 0 ≤ rd q i ∧ rd q i < 5 := by
  unfold okQ at h
  simp only [Bool.and_eq_true, decide_eq_true_eq, List.all_eq_true, List.mem_range] at h
  refine ⟨h.1, h.2.1, fun i h0 h1 => ?_⟩
  have := h.2.2 i.toNat (by omega)
  rwa [Int.toNat_of_nonneg h0] at this
theorem rdropL (l : List (List Int)) (i : Int) (h0 : 0 ≤ i) (h1 : i < l.length) : l.drop i.toNat = rd_L1 l i :: l.drop (i + 1).toNat := by
  obtain ⟨k, rfl⟩ : ∃ k : Nat, i = k := ⟨i.toNat, by omega⟩
  have hk : k < l.length := by omega
  rw [Int.toNat_natCast, show ((k : Int) + 1).toNat = k + 1 by omega, List.drop_eq_getElem_cons hk]
  simp [rd_L1, List.getD_eq_getElem?_getD, List.getElem?_eq_getElem hk]
theorem slice_ev {P : Program} {ops : Array Oper} {rest : List Oper} {o : Oper} {a : Act} {Q : Exit → Act → World → Prop} {W : World} (hgd : o.guard = none) {N : Tmp} (_hd : o.dst = some N) {cs : Array Value} {t : TypeId} {n : Nat}
    (hrun : (execOp a.eval o).run P W = .ok (.value (.slice (some ⟨W.heap.size, 0, none⟩) n n)) (W.alloc (.cells cs t (0, 0))))
    (h : ∀ g, g = W.heap.size → ∀ w1, w1.heap[g]? = some (.cells cs t (0, 0)) → Below W.heap.size W w1 → wpList P ops Q rest (a.put o.dst (.slice (some ⟨g, 0, none⟩) n n)) w1) : wpList P ops Q (o :: rest) a W :=
  Kd.event_run hgd hrun (h _ rfl _ (blk_new W _) (below_alloc (Below.refl _ _) _))
def chk.T21 : Bool × List (List Nat × List Nat) := (true, [([], []), ([], []), ([], []), ([0, 1], [0, 1]), ([3, 2], [2, 3]), ([4], [4]), ([], []), ([5, 6], [5, 6]), ([0, 1], [0, 1]), ([8, 2, 0, 1, 2, 3, 4, 5, 6, 7], [2, 8]), ([9, 7, 0, 1, 2, 3, 4, 5, 6, 7], [7, 9])])
def chk.B21 : List Nat := [0, 0, 0, 3, 15, 31, 0, 127, 3, 511, 1023]
theorem chk.tab21 : rtab .any (opsOf Try.f47 21) = chk.T21 := by kernel_rfl
theorem chk.bits21 : waitsOk chk.T21.2 chk.B21 = true := by kernel_rfl
set_option maxHeartbeats 8000000 in
set_option maxRecDepth 100000 in
theorem xCheckSplit.calls (k : Nat) (A0 : Option Addr) (c0 : Nat) (l0 : List (List S62)) (A1 : Option Addr) (c1 : Nat) (l1 : List (List Int)) (A2 : Option Addr) (c2 : Nat) (l2 : List S62) (r1 : Bool) (r2 : Int) (w : World) (hr0 : Kd.C (Kd.slice 62 k62) w A0 l0.length l0) (hc0 : l0.length ≤ c0) (hr1 : Kd.C (Kd.slice 3 (Kd.int .i64)) w A1 l1.length l1) (hc1 : l1.length ≤ c1) (hr2 : Kd.C k62 w A2 l2.length l2) (hc2 : l2.length ≤ c2) (h : xCheckSplit.f k l0 l1 l2 = some (r1, r2)) :
    Calls Try.prog 47 #[.slice A0 l0.length c0, .slice A1 l1.length c1, .slice A2 l2.length c2] w fun e w' => e = .returned (.tuple #[.bool r1, .int .i64 r2]) ∧ Below w.heap.size w w' := by
  unfold xCheckSplit.f at h
  cases hrd : shares_read.f k l0 with
  | none => rw [hrd] at h; cases h
  | some q =>
    obtain ⟨L, D, ok⟩ := q
    rw [hrd] at h
    dsimp only at h
    have HRD := Lib.hid (shares_read.calls k A0 c0 l0 L D ok w hr0 hc0 hrd)
    clear hrd hr0 hc0
    have HR1 := Aside0.mk hr1
    have HR2 := Aside0.mk hr2
    have HC2 := Aside0.mk hc2
    clear hr1 hr2 hc1 hc2
    cases ok with
    | false =>
      rw [if_neg (by decide)] at h
      simp only [Option.some.injEq, Prod.mk.injEq] at h
      obtain ⟨rfl, rfl⟩ := h
      go_enter Try.func47, Try.ntmps47
      go_wp2_with (go_at_call 83; refine (HRD.out).mono ?_; rintro e w' ⟨v, rfl, ho, hb⟩; have HB := Aside0.mk hb; clear ho hb)
      go_ret2
      exact ⟨rfl, HB.out⟩
    | true =>
      rw [if_pos rfl] at h
      by_cases hlen : (l1.length : Int) = (l2.length : Int)
      · rw [if_pos hlen] at h
        have d1 : ((l1.length : Int) != (l2.length : Int)) = false := bne_eq_false_iff_eq.mpr hlen
        have d1b : (l1.length != l2.length) = false := bne_eq_false_iff_eq.mpr (by omega)
        by_cases h100 : (l1.length : Int) > 100
        · rw [if_pos h100] at h
          have d2 : decide ((l1.length : Int) > 100) = true := decide_eq_true h100
          have d2b : decide (l1.length > 100) = true := decide_eq_true (by omega)
          simp only [Option.some.injEq, Prod.mk.injEq] at h
          obtain ⟨rfl, rfl⟩ := h
          clear hlen h100
          go_enter Try.func47, Try.ntmps47
          go_wp2_with (go_at_call 83; refine (HRD.out).mono ?_; rintro e w' ⟨v, rfl, ho, hb⟩; have HB := Aside0.mk hb; clear ho hb)
          go_ret2
          exact ⟨rfl, HB.out⟩
        · rw [if_neg h100] at h
          have d2 : decide ((l1.length : Int) > 100) = false := decide_eq_false h100
          have d2b : decide (l1.length > 100) = false := decide_eq_false (by omega)
          cases hmu : shares_mixture_multiple.f k [l2] 10000000 with
          | none => rw [hmu] at h; cases h
          | some q =>
            obtain ⟨all, ok2⟩ := q
            rw [hmu] at h
            dsimp only at h
            have HMU := Lib.hid (fun (W : World) (b : Nat) (hb : W.heap[b]? = some (.cells #[.slice A2 l2.length c2] 52 (0, 0))) (hB : Below w.heap.size w W) => shares_mixture_multiple.calls k (some ⟨b, 0, none⟩) 1 [l2] 10000000 all ok2 W (C_oneF hb (Kd.C_below HR2.out hB) HC2.out) (by simp) hmu)
            have HL := Aside0.mk hlen
            have H100 := Aside0.mk h100
            clear hmu hlen h100
            cases ok2 with
            | false =>
              rw [if_neg (by decide)] at h
              simp only [Option.some.injEq, Prod.mk.injEq] at h
              obtain ⟨rfl, rfl⟩ := h
              go_enter Try.func47, Try.ntmps47
              go_wp2_with (first | (go_at_call 83; refine (HRD.out).mono ?_; rintro e w1 ⟨v, rfl, ho, hb⟩; have HB := Aside0.mk hb; clear ho hb) | ((with_reducible refine gate_dst (N := 43) rfl ?_); refine slice_ev ?hg28 (N := 43) ?hd28 (cs := #[.slice A2 l2.length c2]) (t := 52) (n := 1) ?hr28 ?_; (case hd28 => rfl); (case hg28 => rfl); (case hr28 => first | (go_simp; done) | (go_simp; rfl)); intro gc hgc w2 hblk hb; have HBK := Aside0.mk hblk; have HB2 := Aside0.mk (below_step HB.out hb); clear hblk hb hgc) | (go_at_call 86; (refine (HMU.out _ _ HBK.out HB2.out).mono ?_); rintro e w3 ⟨rfl, hb⟩; have HB3 := Aside0.mk (below_step HB2.out hb); clear hb))
              go_ret2
              exact ⟨rfl, HB3.out⟩
            | true =>
              rw [if_pos rfl] at h
              by_cases hok : okL L = true ∧ l0.length = L.length
              · rw [if_pos hok] at h
                obtain ⟨hok1, hml⟩ := hok
                obtain ⟨hl1, hl5, hlr⟩ := okL_at hok1
                cases hck : chkL k l0.length all l2 l1 0 0 (List.replicate l0.length [0, 0, 0, 0, 0]) with
                | none => rw [hck] at h; cases h
                | some res =>
                  rw [hck] at h
                  have HRES := Aside0.mk h
                  have HCK := Aside0.mk hck
                  have HML := Aside0.mk hml
                  have HLR := Aside0.mk hlr
                  have HL5 := Aside0.mk hl5
                  have hm5 : l0.length ≤ 5 := by omega
                  have hm1 : 1 ≤ l0.length := by omega
                  clear h hck hml hlr hok1 hl1 hl5
                  go_enter Try.func47, Try.ntmps47
                  go_wp2_with (first | (go_at_call 83; refine (HRD.out).mono ?_; rintro e w1 ⟨v, rfl, ho, hb⟩; have HB := Aside0.mk hb; obtain ⟨AL, cL, eL, hLc, hLr⟩ := Kd.S_reads ho; subst eL; have HLC := Aside0.mk hLr; clear ho hb hLr hLc) | ((with_reducible refine gate_dst (N := 43) rfl ?_); refine slice_ev ?hg28 (N := 43) ?hd28 (cs := #[.slice A2 l2.length c2]) (t := 52) (n := 1) ?hr28 ?_; (case hd28 => rfl); (case hg28 => rfl); (case hr28 => first | (go_simp; done) | (go_simp; rfl)); intro gc hgc w2 hblk hb; have HBK := Aside0.mk hblk; have HB2 := Aside0.mk (below_step HB.out hb); replace HLC := ak (Kd.C_below HLC.out hb); clear hblk hb hgc) | (go_at_call 86; (refine (HMU.out _ _ HBK.out HB2.out).mono ?_); rintro e w3 ⟨rfl, hb⟩; have HB3 := Aside0.mk (below_step HB2.out hb); replace HLC := ak (Kd.C_below HLC.out hb); clear hb) | ((with_reducible refine gate_dst (N := 51) rfl ?_); refine Kd.R_make k92 _ 92 rfl (N := 51) rfl 90 _ _ rfl (l0.length : Int) rfl rfl Try.underlying90 (.agg #[(.int .i64 0), (.int .i64 0), (.int .i64 0), (.int .i64 0), (.int .i64 0)]) 40 info92 rfl (by decide) (by omega) [0, 0, 0, 0, 0] (ok := fun _ => True) (okp := fun _ => True) (Kd.arr_of_cells (n := 5) (enc := Value.int .i64) (xs := [0, 0, 0, 0, 0]) rfl) (fun _ hk => hk) trivial (by omega) (by omega) (Below.refl _ _) (Nat.le_refl _) ?_; intro v51 w4 ho hb hg_ hnew_; have HG0 := Aside0.mk ho; have HB34 := Aside0.mk hb; clear ho hb hg_ hnew_))
                  obtain ⟨g, cg, eg, hgb, _⟩ := Kd.R_form HG0.out (by rw [List.length_replicate]; omega)
                  rw [List.length_replicate, Int.toNat_natCast] at eg
                  subst eg
                  have HG1 : Aside0 (k92.R 92 w4 w3.heap.size (fun _ => True) (.slice (some ⟨g, 0, none⟩) l0.length cg) (List.replicate l0.length [0, 0, 0, 0, 0])) := ⟨by have h9 := HG0.out; rw [Int.toNat_natCast] at h9; exact h9⟩
                  have HP := Aside0.mk (Kd.C_below HR1.out HB3.out)
                  have HW := Aside0.mk (Kd.C_below HR2.out HB3.out)
                  have HGB := Aside0.mk hgb
                  clear HG0 HR1 HR2 HB HB2 HBK HMU HRD hgb
                  go_loopw [12, 54] (fun v12 v54 wq => ∃ (s i : Int) (G : List (List Int)), v12 = .int .i64 s ∧ v54 = .int .i64 i ∧ 0 ≤ i ∧ i ≤ (l1.length : Int) ∧ Aside0 (chkL k l0.length all l2 (l1.drop i.toNat) i s G = some res) ∧ Aside0 (k92.R 92 wq w3.heap.size (fun _ => True) (.slice (some ⟨g, 0, none⟩) l0.length cg) G) ∧ Aside0 (Below w3.heap.size w3 wq)) (fun _ v54 _ => l1.length - (intOf v54).toNat)
                  case atStart => exact ⟨0, 0, _, rfl, rfl, Int.le_refl _, by omega, HCK, HG1, HB34⟩
                  case round =>
                    clear HCK HG1 HB34
                    obtain ⟨s, i, G, rfl, rfl, hi0, hil, HCK, HG, HB⟩ := hrel
                    by_cases hlt : i < (l1.length : Int)
                    · have k1 : decide (i < (l1.length : Int)) = true := decide_eq_true hlt
                      have hck := HCK.out
                      rw [rdropL l1 i hi0 hlt, chkL] at hck
                      obtain ⟨ad, A8, c8, e8, hx83, hl8, hC8⟩ := at_L1 HP.out i hi0 hlt
                      subst e8
                      have hx8 := pw_cell_below HB.out hx83
                      clear hx83
                      have hli : i < (l2.length : Int) := by have := HL.out; omega
                      obtain ⟨ad2, e2, hx20, hx21⟩ := at_T62 (Kd.C_below HW.out HB.out) i hi0 hli
                      subst e2
                      obtain ⟨q, hq⟩ : ∃ q, rd_L1 l1 i = q := ⟨_, rfl⟩
                      rw [hq] at hck hx8 hl8 hC8
                      have HQ := Aside0.mk hC8
                      have hi100 : i < 101 := by have := H100.out; omega
                      have kx1 := eq_true hi0
                      have kx2 := eq_true hlt
                      have kx3 := eq_true hli
                      cases hper : shares_isPermutation.f k q (l0.length : Int) with
                      | none => rw [hper] at hck; cases hck
                      | some b =>
                        rw [hper] at hck
                        dsimp only at hck
                        have HPE := Lib.hid (fun (W : World) (hB : Below wr.heap.size wr W) => shares_isPermutation.calls k A8 c8 q (l0.length : Int) b W (Kd.C_below (Kd.C_below hC8 HB.out) hB) hl8 hper)
                        clear hper hC8 hl8 HCK hq
                        cases b with
                        | false =>
                          rw [if_neg (by decide)] at hck
                          obtain rfl : res = none := (Option.some.inj hck).symm
                          have hres := HRES.out
                          simp only [Option.some.injEq, Prod.mk.injEq] at hres
                          obtain ⟨rfl, rfl⟩ := hres
                          clear hck
                          go_wp2_with (go_at_call 87; refine (HPE.out _ (Below.refl _ _)).mono ?_; rintro e w' ⟨rfl, ⟨nd, rfl⟩⟩)
                          go_ret2
                          exact ⟨rfl, below_step HB3.out (pw_below_drewN HB.out _)⟩
                        | true =>
                          rw [if_pos rfl] at hck
                          by_cases hf0 : (rd_T62 l2 i).f0 = 0
                          · rw [if_pos hf0] at hck
                            have k2 : ((rd_T62 l2 i).f0 == 0) = true := beq_iff_eq.mpr hf0
                            obtain rfl : res = none := (Option.some.inj hck).symm
                            have hres := HRES.out
                            simp only [Option.some.injEq, Prod.mk.injEq] at hres
                            obtain ⟨rfl, rfl⟩ := hres
                            clear hck hf0
                            go_wp2_with (go_at_call 87; refine (HPE.out _ (Below.refl _ _)).mono ?_; rintro e w' ⟨rfl, ⟨nd, rfl⟩⟩)
                            go_ret2
                            exact ⟨rfl, below_step HB3.out (pw_below_drewN HB.out _)⟩
                          · rw [if_neg hf0] at hck
                            have k2 : ((rd_T62 l2 i).f0 == 0) = false := beq_eq_false_iff_ne.mpr hf0
                            by_cases hf1 : (rd_T62 l2 i).f1 = 0
                            · rw [if_pos hf1] at hck; cases hck
                            · rw [if_neg hf1] at hck
                              have k3 : ((rd_T62 l2 i).f1 == 0) = false := beq_eq_false_iff_ne.mpr hf1
                              have k3b : ((rd_T62 l2 i).f1 != 0) = true := bne_iff_ne.mpr hf1
                              by_cases hoq : okQ (l0.length : Int) q = true
                              · rw [if_pos hoq] at hck
                                obtain ⟨hq1, hq2, hq3⟩ := okQ_at hoq
                                have HCK := Aside0.mk hck
                                have HQ3 := Aside0.mk hq3
                                have HQ1 := Aside0.mk hq1
                                clear hck hoq hf0 hq3 hq1
                                have hw : wgt all l2 i = wrap64 ((rd_T62 l2 i).f0 * wrap64 (Int.tdiv all (rd_T62 l2 i).f1)) := rfl
                                rw [hw] at HCK
                                clear hw
                                generalize (rd_T62 l2 i).f0 = f0 at *
                                generalize (rd_T62 l2 i).f1 = f1 at *
                                go_wp2_with (go_at_call 87; refine (HPE.out _ (Below.refl _ _)).mono ?_; rintro e w' ⟨rfl, ⟨nd, rfl⟩⟩)
                                go_quiet (fail)
                                go_wp2
                                obtain ⟨x, hx⟩ : ∃ x, wrap64 (f0 * wrap64 (Int.tdiv all f1)) = x := ⟨_, rfl⟩
                                rw [hx] at HCK ⊢
                                clear hx hx20 hx21 hx8
                                go_loopw [90] (fun v90 wq => ∃ (j : Int) (G' : List (List Int)), v90 = .int .i64 j ∧ 0 ≤ j ∧ j ≤ (q.length : Int) ∧ Aside0 (addL x G' (q.drop j.toNat) j = addL x G q 0) ∧ Aside0 (k92.R 92 wq w3.heap.size (fun _ => True) (.slice (some ⟨g, 0, none⟩) l0.length cg) G') ∧ Aside0 (Below w3.heap.size w3 wq)) (fun v90 _ => q.length - (intOf v90).toNat)
                                case atStart => exact ⟨0, G, rfl, Int.le_refl _, by omega, ⟨rfl⟩, ⟨by (with_reducible repeat (first | apply Kd.R_alloc | apply Kd.R_drewN | apply Kd.R_drew)); exact HG.out⟩, ⟨hbC w3⟩⟩
                                case round =>
                                  clear HG HB HPE
                                  obtain ⟨j, G', rfl, hj0, hjl, HA, HG, HB⟩ := hrel
                                  by_cases hlj : j < (q.length : Int)
                                  · have k4 : decide (j < (q.length : Int)) = true := decide_eq_true hlj
                                    have ha := HA.out
                                    rw [rdrop q j hj0 hlj, addL] at ha
                                    obtain ⟨ad9, e9, hx9⟩ := Kd.at_int (Kd.C_below HQ.out HB.out) j hj0 hlj
                                    subst e9
                                    obtain ⟨hc0, hc5⟩ := HQ3.out j hj0 hlj
                                    have hjn : j < (l0.length : Int) := by have := HQ1.out; omega
                                    obtain ⟨hy, hyf, _, hput⟩ := at_92 HG.out j (rd q j) hj0 hjn hc0 hc5
                                    have hj5 : j < 5 := by omega
                                    generalize rd q j = c at *
                                    obtain ⟨hs1, hs2⟩ := hput (wrap64 (rd (rd_L1 G' j) c + x))
                                    generalize (G'.set j.toNat ((rd_L1 G' j).set c.toNat (wrap64 (rd (rd_L1 G' j) c + x)))) = G2 at *
                                    generalize rd (rd_L1 G' j) c = y at *
                                    have HA := Aside0.mk ha
                                    clear ha hput
                                    have kx4 := eq_true hj0
                                    have kx5 := eq_true hlj
                                    have kx6 := eq_true hjn
                                    have kx7 := eq_true hc0
                                    have kx8 := eq_true hc5
                                    go_wp2
                                    replace HB := ak (below_drew1 HB.out)
                                    replace HG := ak (Kd.R_drew HG.out)
                                    refine sS (n := 11) (S := fun w' => w'.cell? ⟨g, j.toNat * 5 + c.toNat, none⟩ = some (.int .i64 y)) (ds := [10]) hy (fun hHeld => ?_); refine with_tabW chk.tab21 chk.bits21 (fun HT_ HW_ => ?_)
                                    have hfz : wr.drew.frozen? ⟨g, j.toNat * 5 + c.toNat, none⟩ = false := hyf
                                    have hsx1 : k92.R 92 (wr.drew.setCell ⟨g, j.toNat * 5 + c.toNat, none⟩ (.int .i64 (wrap64 (y + x)))) w3.heap.size (fun _ => True) (.slice (some ⟨g, 0, none⟩) l0.length cg) G2 := by
                                      have h9 := Kd.R_drew hs1
                                      rwa [← World.setCell_drew] at h9
                                    have HS1 := Aside0.mk hsx1
                                    clear hsx1 hs1 hs2 hy hyf
                                    generalize wr.drew = w5 at HB HG HS1 hHeld hfz ⊢
                                    refine pS 0 95 11 1 ?_
                                    refine pS 1 96 11 3 ?_
                                    refine pS 2 97 11 7 ?_
                                    refine pS 3 98 11 15 ?_
                                    refine pS 4 99 11 31 ?_
                                    refine tS 5 100 11 63 ?_
                                    refine pS 6 101 11 127 ?_
                                    refine pS 7 102 11 255 ?_
                                    refine pS 8 103 11 511 ?_
                                    refine pS 9 104 11 1023 ?_
                                    refine last_ (i := 10) (N := none) (ba 11 2047) rfl rfl (one_of HT_.out (by kernel_rfl)) (by decide) (fun K hK => ?_)
                                    refine skip_ (w1 := ?_) (by rfl) rfl ?_ ?_
                                    rotate_left
                                    · go_simp
                                      rfl
                                    refine hK.out _ _ ?_
                                    clear hK K
                                    refine done_ (done_of HT_.out (by kernel_rfl)) ?_
                                    have HB6 := Aside0.mk (below_set (j := j.toNat * 5 + c.toNat) (v := .int .i64 (wrap64 (y + x))) HB.out HGB.out)
                                    clear hHeld hfz
                                    go_wp2
                                    go_roundw
                                    case rel => exact ⟨j + 1, G2, rfl, by omega, by omega, HA, HS1, HB6⟩
                                    case measure => simp [intOf]; omega
                                  · have k4 : decide (j < (q.length : Int)) = false := decide_eq_false hlj
                                    have ha := HA.out
                                    rw [List.drop_of_length_le (by omega)] at ha
                                    have ha2 : G' = addL x G q 0 := ha
                                    clear ha HA
                                    have HA := Aside0.mk ha2
                                    clear ha2
                                    go_wp2
                                    go_roundw
                                    case rel => exact ⟨wrap64 (s + x), i + 1, G', rfl, rfl, by omega, by omega, by rw [HA.out]; exact HCK, HG, HB⟩
                                    case measure => simp [intOf]; omega
                              · rw [if_neg hoq] at hck; cases hck
                    · have k1 : decide (i < (l1.length : Int)) = false := decide_eq_false hlt
                      have hck := HCK.out
                      rw [List.drop_of_length_le (by omega), chkL] at hck
                      obtain rfl : res = some (s, G) := (Option.some.inj hck).symm
                      have hres := HRES.out
                      dsimp only at hres
                      have HRES := Aside0.mk hres
                      clear hck HCK hres
                      go_wp2
                      go_loop [109] (fun v109 => ∃ i : Int, v109 = .int .i64 i ∧ 0 ≤ i ∧ i ≤ (L.length : Int) ∧ Aside0 (cmpR D all G (L.drop i.toNat) i = cmpR D all G L 0)) (fun v109 => L.length - (intOf v109).toNat)
                      case atStart => exact ⟨0, rfl, Int.le_refl _, by omega, ⟨rfl⟩⟩
                      case round =>
                        obtain ⟨i2, rfl, hi0, hil, HC⟩ := hrel
                        by_cases hl2 : i2 < (L.length : Int)
                        · have k4 : decide (i2 < (L.length : Int)) = true := decide_eq_true hl2
                          have hc := HC.out
                          rw [rdropL L i2 hi0 hl2, cmpR] at hc
                          obtain ⟨ad, A8, c8, e8, hx8, hl8, hC8⟩ := at_L1 (Kd.C_below HLC.out HB.out) i2 hi0 hl2
                          subst e8
                          have hr5 : (rd_L1 L i2).length ≤ 5 := by
                            unfold rd_L1
                            rw [List.getD_eq_getElem?_getD, List.getElem?_eq_getElem (show i2.toNat < L.length by omega)]
                            exact HLR.out _ (List.getElem_mem _)
                          have hi5 : i2 < 5 := by have := HL5.out; omega
                          have hig : i2 < (l0.length : Int) := by have := HML.out; omega
                          generalize rd_L1 L i2 = row at *
                          have HQ := Aside0.mk hC8
                          have HCC := Aside0.mk hc
                          have kx1 := eq_true hi0
                          have kx2 := eq_true hl2
                          have kx3 := eq_true hig
                          clear hC8 hl8 hc
                          go_wp2
                          clear hx8
                          go_loop [116] (fun v116 => ∃ j : Int, v116 = .int .i64 j ∧ 0 ≤ j ∧ j ≤ (row.length : Int) ∧ Aside0 (cmpL D all (rd_L1 G i2) (row.drop j.toNat) j = cmpL D all (rd_L1 G i2) row 0)) (fun v116 => row.length - (intOf v116).toNat)
                          case atStart => exact ⟨0, rfl, Int.le_refl _, by omega, ⟨rfl⟩⟩
                          case round =>
                            obtain ⟨j, rfl, hj0, hjl, HJ⟩ := hrel
                            by_cases hlj : j < (row.length : Int)
                            · have k5 : decide (j < (row.length : Int)) = true := decide_eq_true hlj
                              have hj := HJ.out
                              rw [rdrop row j hj0 hlj, cmpL] at hj
                              obtain ⟨ad9, e9, hx9⟩ := Kd.at_int HQ.out j hj0 hlj
                              subst e9
                              have hj5 : j < 5 := by omega
                              obtain ⟨hy, _, _, _⟩ := at_92 HG.out i2 j hi0 hig hj0 hj5
                              generalize rd row j = c at *
                              generalize rd (rd_L1 G i2) j = y at *
                              have kx4 := eq_true hj0
                              have kx5 := eq_true hlj
                              have kx6 := eq_true hj5
                              obtain ⟨z1, hz1⟩ : ∃ z, wrap64 (y * D) = z := ⟨_, rfl⟩
                              obtain ⟨z2, hz2⟩ : ∃ z, wrap64 (c * all) = z := ⟨_, rfl⟩
                              rw [hz1, hz2] at hj
                              by_cases he : z1 = z2
                              · rw [if_pos he] at hj
                                have k6 : (z1 != z2) = false := bne_eq_false_iff_eq.mpr he
                                have HJ := Aside0.mk hj
                                clear hj he
                                go_wp2
                                go_round
                                case rel => exact ⟨j + 1, rfl, by omega, by omega, HJ⟩
                                case measure => simp [intOf]; omega
                              · rw [if_neg he] at hj
                                have k6 : (z1 != z2) = true := bne_iff_ne.mpr he
                                have hcf := HCC.out
                                rw [← hj, if_neg (by decide)] at hcf
                                have hres := HRES.out
                                rw [← hcf, if_neg (by decide)] at hres
                                simp only [Option.some.injEq, Prod.mk.injEq] at hres
                                obtain ⟨rfl, rfl⟩ := hres
                                clear hj he hcf
                                go_wp2
                                go_ret2
                                exact ⟨rfl, below_step HB3.out HB.out⟩
                            · have k5 : decide (j < (row.length : Int)) = false := decide_eq_false hlj
                              have hj := HJ.out
                              rw [List.drop_of_length_le (by omega), cmpL] at hj
                              have hcf := HCC.out
                              rw [← hj, if_pos rfl] at hcf
                              have HC := Aside0.mk hcf
                              clear hj hcf HJ
                              go_wp2
                              go_round
                              case rel => exact ⟨i2 + 1, rfl, by omega, by omega, HC⟩
                              case measure => simp [intOf]; omega
                        · have k4 : decide (i2 < (L.length : Int)) = false := decide_eq_false hl2
                          have hc := HC.out
                          rw [List.drop_of_length_le (by omega), cmpR] at hc
                          have hres := HRES.out
                          rw [← hc, if_pos rfl] at hres
                          simp only [Option.some.injEq, Prod.mk.injEq] at hres
                          obtain ⟨rfl, rfl⟩ := hres
                          clear hc HC
                          go_wp2
                          go_ret2
                          exact ⟨rfl, below_step HB3.out HB.out⟩
              · rw [if_neg hok] at h; cases h
      · rw [if_neg hlen] at h
        have d1 : ((l1.length : Int) != (l2.length : Int)) = true := bne_iff_ne.mpr hlen
        have d1b : (l1.length != l2.length) = true := bne_iff_ne.mpr (by omega)
        simp only [Option.some.injEq, Prod.mk.injEq] at h
        obtain ⟨rfl, rfl⟩ := h
        clear hlen
        go_enter Try.func47, Try.ntmps47
        go_wp2_with (go_at_call 83; refine (HRD.out).mono ?_; rintro e w' ⟨v, rfl, ho, hb⟩; have HB := Aside0.mk hb; clear ho hb)
        go_ret2
        exact ⟨rfl, HB.out⟩
theorem chkL_mono (k : Nat) (n all : Int) (ws : List S62) : ∀ p i s G, LeO (chkL k n all ws p i s G) (chkL (k + 1) n all ws p i s G) := by
  intro p
  induction p with
  | nil => intro i s G r h; exact h
  | cons q qs ih =>
    intro i s G r h
    rw [chkL] at h ⊢
    cases hp : shares_isPermutation.f k q n with
    | none => rw [hp] at h; cases h
    | some b =>
      rw [hp] at h
      rw [shares_isPermutation.mono _ _ _ _ hp]
      dsimp only at h ⊢
      cases b with
      | false => exact h
      | true =>
        rw [if_pos rfl] at h ⊢
        by_cases h0 : (rd_T62 ws i).f0 = 0
        · rw [if_pos h0] at h ⊢; exact h
        · rw [if_neg h0] at h ⊢
          by_cases h1 : (rd_T62 ws i).f1 = 0
          · rw [if_pos h1] at h; cases h
          · rw [if_neg h1] at h ⊢
            by_cases ho : okQ n q = true
            · rw [if_pos ho] at h ⊢; exact ih _ _ _ r h
            · rw [if_neg ho] at h; cases h
theorem xCheckSplit.mono : ∀ a0 a1 a2 k, LeO (xCheckSplit.f k a0 a1 a2) (xCheckSplit.f (k + 1) a0 a1 a2) := by
  intro a0 a1 a2 k r h
  unfold xCheckSplit.f at h ⊢
  cases hrd : shares_read.f k a0 with
  | none => rw [hrd] at h; cases h
  | some q =>
    obtain ⟨L, D, ok⟩ := q
    rw [hrd] at h
    rw [shares_read.mono _ _ _ hrd]
    dsimp only at h ⊢
    cases ok with
    | false => exact h
    | true =>
      rw [if_pos rfl] at h ⊢
      by_cases hlen : (a1.length : Int) = (a2.length : Int)
      · rw [if_pos hlen] at h ⊢
        by_cases h100 : (a1.length : Int) > 100
        · rw [if_pos h100] at h ⊢; exact h
        · rw [if_neg h100] at h ⊢
          cases hmu : shares_mixture_multiple.f k [a2] 10000000 with
          | none => rw [hmu] at h; cases h
          | some q =>
            obtain ⟨all, ok2⟩ := q
            rw [hmu] at h
            rw [shares_mixture_multiple.mono _ _ _ _ hmu]
            dsimp only at h ⊢
            cases ok2 with
            | false => exact h
            | true =>
              rw [if_pos rfl] at h ⊢
              by_cases hok : okL L = true ∧ a0.length = L.length
              · rw [if_pos hok] at h ⊢
                cases hck : chkL k a0.length all a2 a1 0 0 (List.replicate a0.length [0, 0, 0, 0, 0]) with
                | none => rw [hck] at h; cases h
                | some res => rw [hck] at h; rw [chkL_mono _ _ _ _ _ _ _ _ _ hck]; exact h
              · rw [if_neg hok] at h; cases h
      · rw [if_neg hlen] at h ⊢; exact h
end Go.Proofs.Ytefmafbbnkkpjaa.X
