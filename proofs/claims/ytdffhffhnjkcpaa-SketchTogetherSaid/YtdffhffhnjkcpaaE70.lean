/- The walk of read: the list behind a stream, whatever is done with a key that is not on a full list. -/
import Derived.Test.YtdffhffhnjkcpaaE87
import Derived.Test.YtdffhffhnjkcpaaE88
namespace Go.Proofs.Ytdffhffhnjkcpaa.X
open Go.RowKit Go.Shelf Go.Proofs.YtdffhffhnjkcpaaW.PrintWords Go.Proofs.YtdffhffhnjkcpaaW.PrintLast Go.Proofs.YtdffhffhnjkcpaaW.PrintMore
set_option linter.unusedVariables false
set_option linter.unusedSimpArgs false

def stepG (k : Int) (g : List S70 → Int → List S70) (l : List S70) (x : Int) : List S70 := if hasK x l = true then upd x l else if (l.length : Int) < k then l ++ [⟨x, 1, 0⟩] else g l x
def foldG (k : Int) (g : List S70 → Int → List S70) (s : List Int) : List S70 := s.foldl (stepG k g) []
theorem foldG_snoc (k : Int) (g : List S70 → Int → List S70) (p : List Int) (x : Int) : foldG k g (p ++ [x]) = stepG k g (foldG k g p) x := by
  simp [foldG, List.foldl_append]
theorem idx_has {x : Int} {l : List S70} (hn : (keys l).Nodup) (h : hasK x l = true) : ∃ i, ∃ hi : i < l.length, idxP (is x) l = (i : Int) ∧ l[i].f0 = x ∧ l.set i ⟨l[i].f0, l[i].f1 + 1, l[i].f2⟩ = upd x l := by
  unfold idxP
  cases hf : l.findIdx? (is x) with
  | none =>
    rw [List.findIdx?_eq_none_iff] at hf
    obtain ⟨c, hc, e⟩ := List.any_eq_true.mp h
    rw [hf c hc] at e
    cases e
  | some i =>
    rw [List.findIdx?_eq_some_iff_getElem] at hf
    obtain ⟨hi, h1, h2⟩ := hf
    have e := (is_iff _ _).mp h1
    refine ⟨i, hi, rfl, e, ?_⟩
    unfold upd
    apply List.ext_getElem
    · simp
    · intro j h3 h4
      rw [List.getElem_set, List.getElem_map]
      by_cases hij : i = j
      · subst hij
        rw [if_pos rfl]
        unfold one
        rw [if_pos e]
      · rw [if_neg hij]
        have hj : j < l.length := by simpa using h3
        have hne : l[j].f0 ≠ x := by
          rw [← e]
          have hp := List.pairwise_iff_getElem.mp hn
          rcases Nat.lt_or_ge i j with q | q
          · have := hp i j (by simpa [keys] using hi) (by simpa [keys] using hj) q
            simp [keys] at this
            exact fun r => this r.symm
          · have := hp j i (by simpa [keys] using hj) (by simpa [keys] using hi) (by omega)
            simp [keys] at this
            exact this
        unfold one
        rw [if_neg hne]
theorem idx_hasnot {x : Int} {l : List S70} (h : ¬ hasK x l = true) : idxP (is x) l = -1 := by
  refine idxP_none fun i hi => ?_
  cases hc : is x l[i] with
  | false => rfl
  | true => exact absurd (List.any_eq_true.mpr ⟨l[i], List.getElem_mem hi, hc⟩) h

set_option maxHeartbeats 2000000 in
set_option maxRecDepth 100000 in
theorem at_calls (G : Nat) (a b : Value) (A : Option Addr) (c : Nat) (l : List S70) (x : Int) (W : World) (hL : W.heap[G]? = some (.cells #[a, b, .slice A l.length c] 91 (0, 0))) (hr : Kd.C k70 W A l.length l) (hc : l.length ≤ c) :
    Calls Try.prog 86 #[.pointer (some ⟨G, 0, none⟩), .int .i64 x] W fun e w' => e = .returned (.int .i64 (idxP (is x) l)) ∧ Below W.heap.size W w' := by
  have hb1 : Below W.heap.size W (W.alloc (.cells #[.int .i64 x] 3)) := below_alloc (Below.refl _ _) _
  have hc2 : (W.alloc (.cells #[.int .i64 x] 3)).cell? ⟨G, 2, none⟩ = some (.slice A l.length c) := pw_cell_below hb1 ((blk_cell hL 2).trans rfl)
  have hx : (W.alloc (.cells #[.int .i64 x] 3)).cell? ⟨W.heap.size, 0, none⟩ = some (.int .i64 x) := cell_one_new W _ _ 0 _ rfl
  have hi := idx_calls 95 #[.pointer (some ⟨W.heap.size, 0, none⟩)] (is x) A c l _ (fun a w => enters_of Try.func95 (by kernel_rfl) rfl a w) (Kd.C_below hr hb1) hc (fun d W' hb => at1_calls x W.heap.size d W' (pw_cell_below hb hx))
  have HI := Lib.hid hi
  have HB := Aside0.mk hb1
  clear hL hr hc hi hx hb1
  go_enter Try.func86, Try.ntmps86
  go_wp2_with (go_at_call 94; refine (HI.out).mono ?_; rintro e w' ⟨rfl, hb⟩)
  go_ret
  exact ⟨rfl, below_step HB.out hb⟩

theorem k70_ne91 (q : Nat) (hq : q ∈ 70 :: k70.E) : q ≠ 91 := by
  have h : q ∈ [70] := hq
  rw [List.mem_singleton] at h
  omega
/-- What is known of the list before each key. -/
structure RInv (k : Int) (l : List S70) : Prop where
  nd : (keys l).Nodup
  sm : ∀ c ∈ l, 1 ≤ c.f1 ∧ c.f1 ≤ 1000
  len : (l.length : Int) ≤ k
  key : ∀ c ∈ l, 0 ≤ c.f0 ∧ c.f0 < 16

set_option maxHeartbeats 8000000 in
set_option maxRecDepth 100000 in
theorem read_calls (F : Nat) (g : List S70 → Int → List S70) (w0 W : World) (G : Nat) (k : Int) (A1 : Option Addr) (c1 : Nat) (s : List Int) (hk1 : 1 ≤ k) (hk8 : k ≤ 8) (hs40 : s.length ≤ 40)
    (eg : ∀ args w, (callFunc F args).run Try.prog w = .ok (.enter F args) w)
    (hinv : ∀ j, j ≤ s.length → RInv k (foldG k g (s.take j)))
    (hr1 : Kd.C (Kd.int .i64) w0 A1 s.length s)
    (hfull : ∀ (wr : World) (v : Value) (l : List S70) (x : Int), l.length = k → RInv k l → ¬ hasK x l = true → wr.heap[G]? = some (.cells #[.int .i64 k, .func (.func F) #[] #[], v] 91 (0, 0)) → Below w0.heap.size w0 wr → Kd.R k70 70 wr w0.heap.size (fun _ => True) v l →
      Calls Try.prog F #[.pointer (some ⟨G, 0, none⟩), .int .i64 x] wr fun e w' => e = .returned (.tuple #[]) ∧ ∃ v', w'.heap[G]? = some (.cells #[.int .i64 k, .func (.func F) #[] #[], v'] 91 (0, 0)) ∧ Kd.R k70 70 w' w0.heap.size (fun _ => True) v' (g l x) ∧ Below w0.heap.size w0 w')
    (hL : W.heap[G]? = some (.cells #[.int .i64 k, .func (.func F) #[] #[], .slice none 0 0] 91 (0, 0))) (hb0 : Below w0.heap.size w0 W) (hG : w0.heap.size ≤ G) :
    Calls Try.prog 70 #[.pointer (some ⟨G, 0, none⟩), .slice A1 s.length c1] W fun e w' => ∃ v', e = .returned v' ∧ Kd.R k70 70 w' w0.heap.size (fun _ => True) v' (risen (foldG k g s)) ∧ Below w0.heap.size w0 w' := by
  have HR1 := Aside0.mk hr1
  have HI := Aside0.mk hinv
  have HF := Aside0.mk hfull
  have HL := Aside0.mk hL
  have HB := Aside0.mk hb0
  have HG := Aside0.mk hG
  clear hr1 hinv hfull hL hb0 hG
  obtain ⟨i0, hi70, hz0, hz1, hz2⟩ := info_parts info70
  clear hi70 hz0 hz1 hz2
  go_enter Try.func70, Try.ntmps70
  go_wp2
  go_loopw [10] (fun v10 wr => ∃ (j : Nat) (v : Value), j ≤ s.length ∧ v10 = .int .i64 j ∧ Aside0 (wr.heap[G]? = some (.cells #[.int .i64 k, .func (.func F) #[] #[], v] 91 (0, 0))) ∧ Aside0 (Kd.R k70 70 wr w0.heap.size (fun _ => True) v (foldG k g (s.take j))) ∧ Aside0 (Below w0.heap.size w0 wr)) (fun v10 _ => s.length - (intOf v10).toNat)
  case atStart => exact ⟨0, _, Nat.zero_le _, rfl, HL, ⟨Kd.R_nil _ _ _ _ _⟩, HB⟩
  case round =>
    clear HL HB
    obtain ⟨j, v, hj, rfl, HL, HO, HB⟩ := hrel
    by_cases hlt : j < s.length
    · have hkd : decide ((j : Int) < (s.length : Int)) = true := decide_eq_true (by omega)
      have hkd2 : decide (j < s.length) = true := decide_eq_true hlt
      have hinv := HI.out j hj
      have hts : Aside0 (foldG k g (s.take (j + 1)) = stepG k g (foldG k g (s.take j)) (rd s (j : Int))) := ⟨by
        have : s.take (j + 1) = s.take j ++ [rd s (j : Int)] := by
          rw [List.take_succ_eq_append_getElem hlt]
          simp [rd, List.getD_eq_getElem?_getD, List.getElem?_eq_getElem hlt]
        rw [this, foldG_snoc]⟩
      obtain ⟨ad, e, hcell⟩ := Kd.at_int HR1.out (j : Int) (by omega) (by omega)
      cases e
      rw [Int.toNat_natCast] at hcell
      have hcell2 := pw_cell_below HB.out hcell
      clear hcell
      generalize rd s (j : Int) = x at *
      generalize foldG k g (s.take j) = l at *
      obtain ⟨A, c, rfl⟩ := Kd.R_slice HO.out
      have hrd := Kd.R_reads' HO.out
      have hat := at_calls G (.int .i64 k) (.func (.func F) #[] #[]) A c l x wr HL.out hrd.2.2 hrd.2.1
      have HNV := Aside0.mk hinv
      have hl8 : l.length ≤ 8 := by have := hinv.len; omega
      by_cases hx : hasK x l = true
      · obtain ⟨i, hi, hidx, hix, hset⟩ := idx_has hinv.nd hx
        rw [hidx] at hat
        have hsm := hinv.sm l[i] (List.getElem_mem hi)
        have HST := Aside0.mk hset
        have HX := Aside0.mk hx
        generalize hq : l[i] = q at *
        have HQ := Aside0.mk hq
        have HA := Lib.hid hat
        obtain ⟨hs1, hs2⟩ := hsm
        clear hat hx hset hidx hinv hq hix
        obtain ⟨gb, cap, ev, hg0, hg1, cells, hgt⟩ := Kd.R_form HO.out (by omega)
        injection ev with ev1 ev2 ev3
        subst ev1 ev3
        have hgG : Aside0 (gb ≠ G) := ⟨blk_ne hgt HL.out (by decide)⟩
        have HG0 := Aside0.mk hg0
        clear ev2 hg1 hgt hg0 hrd
        have hxd : decide ((0 : Int) ≤ (i : Int)) = true := decide_eq_true (by omega)
        have hlen := Aside0.mk hi
        go_wp2_with (first | (go_at_call 86; refine (HA.out).mono ?_; rintro e w2 ⟨rfl, hb⟩; have HL2 := Aside0.mk (blk_below HL.out hb); have HO2 := Aside0.mk (Kd.R_below HO.out hb); have HB2 := Aside0.mk (below_step HB.out hb); have hc2 : w2.cell? ⟨G, 2, none⟩ = some (.slice (some ⟨gb, 0, none⟩) l.length c) := (blk_cell HL2.out 2).trans rfl; obtain ⟨ci, hcl3, hM3, hcc3, hfr3⟩ := Kd.R_elem HO2.out z70 (i : Int) (by omega) (by omega); rw [Int.toNat_natCast] at hM3 hcc3 hfr3; have hgd : l.getD i z70 = q := (by rw [List.getD_eq_getElem?_getD, List.getElem?_eq_getElem hi]; exact HQ.out); rw [hgd] at hM3; obtain rfl := k70_openM hM3; have y0 := hcc3 0 _ rfl; have y1 := hcc3 1 _ rfl; have y2 := hcc3 2 _ rfl; have f0 := hfr3 0; have f1 := hfr3 1; have f2 := hfr3 2; simp only [show (k70).sz = 3 from rfl, Nat.add_zero] at y0 y1 y2 f0 f1 f2; have HP3 := Kd.R_seg HO2.out (i : Int) (by omega) (by omega) (seg := [.int .i64 (q.f1 + 1)]) (j := 1) hcl3 (by rw [Int.toNat_natCast]; exact hcc3) (show 2 ≤ 3 from by decide) (x' := ⟨q.f0, q.f1 + 1, q.f2⟩) (k70_mkM _ _ _ ⟨q.f0, q.f1 + 1, q.f2⟩) (fun _ hk => hk); rw [Int.toNat_natCast] at HP3; clear hcl3 hM3 hcc3 hfr3 hgd hb) | ((with_reducible refine gate_store (t := 3) (p := 37) rfl ?_); refine store_event (t := 3) (p := 37) (v := ?vo) (w1 := (w2.setCell ⟨gb, i * 3 + 1, none⟩ (.int .i64 (q.f1 + 1)))) ?hg ?ho ?hn ?hr ?_; (case ho => rfl); (case hg => rfl); (case hn => rfl); (case hr => first | (go_simp; done) | (go_simp; rfl)); intro w3 hw; have HO3 := Aside0.mk (show Kd.R k70 70 w3 w0.heap.size (fun _ => True) (.slice (some ⟨gb, 0, none⟩) l.length c) (upd x l) from by rw [hw, ← HST.out]; exact HP3.1); have HB3 := Aside0.mk (show Below w0.heap.size w0 w3 from by rw [hw]; exact below_set HB2.out HG0.out); have HL3 := Aside0.mk (show w3.heap[G]? = some (.cells #[.int .i64 k, .func (.func F) #[] #[], .slice (some ⟨gb, 0, none⟩) l.length c] 91 (0, 0)) from by rw [hw]; exact blk_far HL2.out (fun e => hgG.out e.symm) _); clear hw HP3))
        go_roundw
        case rel => exact ⟨j + 1, _, by omega, by go_num, HL3, ⟨by rw [hts.out]; unfold stepG; rw [if_pos HX.out]; exact HO3.out⟩, HB3⟩
        case measure => simp [intOf]; omega
      · rw [idx_hasnot hx] at hat
        have HX := Aside0.mk hx
        have HA := Lib.hid hat
        clear hat hx hinv
        have hxd : decide ((0 : Int) ≤ -1) = false := by decide
        by_cases hlk : (l.length : Int) < k
        · have HLK := Aside0.mk hlk
          have hlkd : decide ((l.length : Int) < k) = true := decide_eq_true hlk
          clear hlk
          go_wp2_with (first | (go_at_call 86; refine (HA.out).mono ?_; rintro e w2 ⟨rfl, hb⟩; have HL2 := Aside0.mk (blk_below HL.out hb); have HO2 := Aside0.mk (Kd.R_below HO.out hb); have HB2 := Aside0.mk (below_step HB.out hb); have hc2 : w2.cell? ⟨G, 2, none⟩ = some (.slice A l.length c) := (blk_cell HL2.out 2).trans rfl; have hc0 : w2.cell? ⟨G, 0, none⟩ = some (.int .i64 k) := (blk_cell HL2.out 0).trans rfl; have hcf : w2.cell? ⟨G, 1, none⟩ = some (.func (.func F) #[] #[]) := (blk_cell HL2.out 1).trans rfl; clear hb))
          go_quiet (fail)
          go_wp2_with (first | ((with_reducible refine gate_builtin (b := .append) (xs := #[.tmp 53, .tmp 56]) rfl ?_); at_builtin; refine Kd.R_append k70 (w0 := w0) w0.heap.size rfl (.tmp 53) (.tmp 56) 57 70 (.agg #[(.int .i64 0), (.int .i64 0), (.int .i64 0)]) 24 rfl Try.underlying57 info70 rfl (by decide) (by omega) (.slice A l.length c) l (⟨x, 1, 0⟩ : S70) [.int .i64 x, .int .i64 1, .int .i64 0] (fun _ => True) (fun _ => False) rfl rfl ?aP (fun _ hk => hk.elim) ?aF ?aO ?aB ?aS ?aL ?_; (case aP => exact k70_mkM _ _ _ (⟨x, 1, 0⟩ : S70)); (case aB => exact (by repeat (first | (with_reducible first | exact HB2.out | apply below_alloc | apply pw_below_drewN | apply below_drew1) | exact HB2.out))); (case aF => exact (fun _ _ => trivial)); (case aO => exact (by (with_reducible repeat (first | apply Kd.R_alloc | apply Kd.R_drewN | apply Kd.R_drew)); exact HO2.out)); (case aS => exact (below_size (by repeat (first | (with_reducible first | exact HB2.out | apply below_alloc | apply pw_below_drewN | apply below_drew1) | exact HB2.out)))); (case aL => omega); intro v4 w4 ho hb hg hat4; obtain ⟨A4, c4, rfl⟩ := Kd.R_slice ho; have HO4 := Aside0.mk ho; have HB4 := Aside0.mk hb; have HL4 := Aside0.mk (blk_grown (blk_drewN HL2.out _) hg (Kd.R_ne HO2.out HL2.out (by decide))); have hz4 : w4.cell? ⟨G, 2, none⟩ = some (.slice A l.length c) := (blk_cell HL4.out 2).trans rfl; have hf4 : w4.frozen? ⟨G, 2, none⟩ = false := blk_frozen HL4.out 2; clear ho hb hg hat4 hc2 hc0))
          go_roundw
          case rel => exact ⟨j + 1, .slice A4 (l.length + 1) c4, by omega, by go_num, ⟨blk_put HL4.out 2 _ rfl⟩, ⟨by rw [hts.out]; unfold stepG; rw [if_neg HX.out, if_pos HLK.out]; have h4 := HO4.out; simp only [List.length_append, List.length_cons, List.length_nil, Nat.zero_add] at h4; exact Kd.R_set h4 HL4.out k70_ne91 2 _⟩, ⟨below_set HB4.out HG.out⟩⟩
          case measure => simp [intOf]; omega
        · have hlkd : decide ((l.length : Int) < k) = false := decide_eq_false hlk
          have hlk2 : (l.length : Int) = k := by have := HNV.out.len; omega
          have HLK := Aside0.mk hlk
          have HLK2 := Aside0.mk hlk2
          clear hlk hlk2
          go_wp2_with (first | (go_at_call 86; refine (HA.out).mono ?_; rintro e w2 ⟨rfl, hb⟩; have HL2 := Aside0.mk (blk_below HL.out hb); have HO2 := Aside0.mk (Kd.R_below HO.out hb); have HB2 := Aside0.mk (below_step HB.out hb); have hc2 : w2.cell? ⟨G, 2, none⟩ = some (.slice A l.length c) := (blk_cell HL2.out 2).trans rfl; have hc0 : w2.cell? ⟨G, 0, none⟩ = some (.int .i64 k) := (blk_cell HL2.out 0).trans rfl; have hcf : w2.cell? ⟨G, 1, none⟩ = some (.func (.func F) #[] #[]) := (blk_cell HL2.out 1).trans rfl; clear hb))
          go_quiet (fail)
          go_wp2_with (first | (go_at_fn F; refine (HF.out _ _ l x HLK2.out HNV.out HX.out (blk_drewN HL2.out _) (pw_below_drewN HB2.out _) (Kd.R_drewN HO2.out _)).mono ?_; rintro e w4 ⟨rfl, v4, hl4, ho4, hb4⟩; have HL4 := Aside0.mk hl4; have HO4 := Aside0.mk ho4; have HB4 := Aside0.mk hb4; clear hl4 ho4 hb4))
          go_roundw
          case rel => exact ⟨j + 1, v4, by omega, by go_num, HL4, ⟨by rw [hts.out]; unfold stepG; rw [if_neg HX.out, if_neg (by have := HLK2.out; omega)]; exact HO4.out⟩, HB4⟩
          case measure => simp [intOf]; omega
    · have hkd : decide ((j : Int) < (s.length : Int)) = false := decide_eq_false (by omega)
      have hkd2 : decide (j < s.length) = false := decide_eq_false hlt
      obtain rfl : j = s.length := by omega
      rw [List.take_length] at HO
      have hinv := HI.out s.length (Nat.le_refl _)
      rw [List.take_length] at hinv
      have ht := told_calls w0 wr G (.int .i64 k) (.func (.func F) #[] #[]) v (foldG k g s) (by have := hinv.len; omega) hinv.nd hinv.key HL.out HB.out HO.out
      have HT := Lib.hid ht
      clear ht hinv
      go_wp2_with (go_at_call 87; refine (HT.out).mono ?_; rintro e w4 ⟨v4, rfl, ho4, hb4⟩)
      go_ret
      exact ⟨v4, rfl, ho4, hb4⟩
end Go.Proofs.Ytdffhffhnjkcpaa.X
