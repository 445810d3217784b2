/- The walk of slices.Repeat at fractions, of a slice of one element: as many of it as asked. -/
import Derived.Test.YtefmafbbnkkpjaaK
import Derived.Test.YtefmafbbnkkpjaaX0
import Derived.Laws.CopyOwn
import Derived.Outline
import Derived.Laws.Rows
import Derived.Lib.Hide
import Derived.Shelf.Bits.Mul64
namespace Go.Proofs.Ytefmafbbnkkpjaa.X
open Go.RowKit Go.Proofs.YtefmafbbnkkpjaaW.PrintWords Go.Proofs.YtefmafbbnkkpjaaW.PrintLast Go.Proofs.YtefmafbbnkkpjaaW.PrintMore
set_option linter.unusedVariables false
set_option linter.unusedSimpArgs false

theorem run_copyN {P : Program} (w : World) (dT sT ty elem : TypeId) (g o dLen dCap : Nat) (a : Addr) (sLen sCap sz m : Nat) (cur : Array Value) (t : TypeId) (cs : List Value)
  (hu : P.underlying dT = some (.slice elem)) (hs : (P.info? elem).map (·.size) = some sz)
  (hg : w.heap[g]? = some (.cells cur t (0, 0))) (hm : m = Nat.min sLen dLen) (hn : cs.length = m * sz)
  (hsrc : ∀ j v, cs[j]? = some v → w.cell? (a.add j) = some v) (hfit : o + cs.length ≤ cur.size) (h1 : ∀ v ∈ cs, v.oneCell' = true) :
  (Builtin.copy_ #[dT, sT] ty #[.slice (some ⟨g, o, none⟩) dLen dCap, .slice (some a) sLen sCap]).run P w =
   .ok (goInt m) (w.setRow g (cur.toList.take o ++ cs ++ cur.toList.drop (o + cs.length)).toArray) := by
 have hl := run_loadCells_list (P := P) w a cs hsrc
 have hst := run_storeCells_at P g o t cs 0 cur w hg (by simpa using hfit) h1
 cases hq : P.info? elem with
 | none => simp [hq] at hs
 | some i =>
  have hi : i.size = sz := by simpa [hq] using hs
  rw [hn] at hl
  simp [Builtin.copy_, run_underlying hu, Builtin.lenOf, Builtin.firstCells, sizeOf, typeInfo, hq, hi, ← hm, hl, hst]
theorem bitsMul64_calls (x y : Nat) (hx : x < 18446744073709551616) (hy : y < 18446744073709551616) (w : World) :
  Calls Try.prog 148 #[.int .u64 x, .int .u64 y] w fun e w' => e = .returned (.tuple #[.int .u64 ((x * y / 18446744073709551616 : Nat) : Int), .int .u64 ((x * y % 18446744073709551616 : Nat) : Int)]) ∧ w' = w := by
 obtain ⟨bd, bt, bw, hhi⟩ := Lib.mul64_hi x y hx hy
 have ba := Lib.half_mul_le (a := x / 4294967296) (b := y / 4294967296) (by omega) (by omega)
 have bb := Lib.half_mul_le (a := x / 4294967296) (b := y % 4294967296) (by omega) (by omega)
 have bc := Lib.half_mul_le (a := x % 4294967296) (b := y / 4294967296) (by omega) (by omega)
 have ba' : x / 4294967296 * (y / 4294967296) < 18446744073709551616 := by omega
 have bb' : x / 4294967296 * (y % 4294967296) < 18446744073709551616 := by omega
 have bc' : x % 4294967296 * (y / 4294967296) < 18446744073709551616 := by omega
 have bh1 : x / 4294967296 * (y / 4294967296) + (x / 4294967296 * (y % 4294967296) + x % 4294967296 * (y % 4294967296) / 4294967296) / 4294967296 < 18446744073709551616 := by omega
 have bh : x / 4294967296 * (y / 4294967296) + (x / 4294967296 * (y % 4294967296) + x % 4294967296 * (y % 4294967296) / 4294967296) / 4294967296 + ((x / 4294967296 * (y % 4294967296) + x % 4294967296 * (y % 4294967296) / 4294967296) % 4294967296 + x % 4294967296 * (y / 4294967296)) / 4294967296 < 18446744073709551616 := by omega
 go_enter Try.func148, Try.ntmps148
 go_wp2
 simp only [Mul64.maskN x hx, Mul64.maskN y hy, Mul64.divN, Mul64.mulN, Mul64.addN, Mul64.wrapN _ bd, Mul64.wrapN _ bb', Mul64.wrapN _ bt, Mul64.maskN _ bt, Mul64.wrapN _ bc', Mul64.wrapN _ bw, Mul64.wrapN _ ba', Mul64.wrapN _ bh1, Mul64.wrapN _ bh, Mul64.wrapM (x * y)]
 rw [hhi]
 go_ret2
 exact ⟨rfl, rfl⟩
theorem bitsMul_calls (x y : Nat) (hx : x < 18446744073709551616) (hy : y < 18446744073709551616) (w : World) :
  Calls Try.prog 135 #[.int .u64 x, .int .u64 y] w fun e w' => e = .returned (.tuple #[.int .u64 ((x * y / 18446744073709551616 : Nat) : Int), .int .u64 ((x * y % 18446744073709551616 : Nat) : Int)]) ∧ w' = w := by
 have c64 := bitsMul64_calls x y hx hy w
 go_enter Try.func135, Try.ntmps135
 go_wp2_with (go_at_call 148; refine c64.mono ?_; rintro e w' ⟨rfl, hw⟩; rw [hw])
 go_ret2
 exact ⟨rfl, rfl⟩
/-- n pairs of cells: the first m are x, the others z -/
def rowC (m n : Nat) (x z : List Value) : List Value := (List.replicate m x).flatten ++ (List.replicate (n - m) z).flatten
theorem flat_len (m : Nat) (x : List Value) : (List.replicate m x).flatten.length = m * x.length := by
 simp [List.length_flatten, List.map_replicate, List.sum_replicate_nat]
theorem rowC_len {m n : Nat} {x z : List Value} {s : Nat} (hx : x.length = s) (hz : z.length = s) (h : m ≤ n) : (rowC m n x z).length = n * s := by
 unfold rowC
 rw [List.length_append, flat_len, flat_len, hx, hz, ← Nat.add_mul]
 congr 1
 omega
theorem rowC_copy {m n k : Nat} {x z : List Value} {s : Nat} (hx : x.length = s) (hz : z.length = s) (h : m + k ≤ n) :
  (rowC m n x z).take (m * s) ++ ((List.replicate k x).flatten ++ (rowC m n x z).drop (m * s + (List.replicate k x).flatten.length)) = rowC (m + k) n x z := by
 have e1 : (List.replicate m x).flatten.length = m * s := by rw [flat_len, hx]
 have e2 : (List.replicate k x).flatten.length = k * s := by rw [flat_len, hx]
 have e3 : (List.replicate (n - m) z).flatten = (List.replicate k z).flatten ++ (List.replicate (n - (m + k)) z).flatten := by
  rw [← List.flatten_append, List.replicate_append_replicate]
  congr 2
  omega
 have e4 : (List.replicate k z).flatten.length = k * s := by rw [flat_len, hz]
 have e5 : (List.replicate (m + k) x).flatten = (List.replicate m x).flatten ++ (List.replicate k x).flatten := by
  rw [← List.flatten_append, List.replicate_append_replicate]
 unfold rowC
 rw [e2, e3, e5, List.take_append_of_le_length (by omega), List.take_of_length_le (by omega), ← e1, List.drop_append, List.drop_of_length_le (by omega)]
 simp only [List.nil_append]
 rw [show (List.replicate m x).flatten.length + k * s - (List.replicate m x).flatten.length = (List.replicate k z).flatten.length by omega, List.drop_left, List.append_assoc]
theorem flat_get_pre {m k : Nat} (x rest : List Value) (h : k ≤ m) (j : Nat) (v : Value) (hj : (List.replicate k x).flatten[j]? = some v) : ((List.replicate m x).flatten ++ rest)[j]? = some v := by
 obtain ⟨d, rfl⟩ := Nat.exists_eq_add_of_le h
 rw [← List.replicate_append_replicate, List.flatten_append, List.append_assoc]
 have : j < (List.replicate k x).flatten.length := by
  apply Classical.byContradiction
  intro hn
  rw [List.getElem?_eq_none (by omega)] at hj
  cases hj
 rw [List.getElem?_append_left this]
 exact hj
theorem reps_replicate {α : Type} {R : α → List Value → Prop} {size : Nat} {z0 : α} {c : List Value} (hc : c.length = size) (h0 : R z0 c) : ∀ m : Nat, Reps R size (List.replicate m z0) (List.replicate m c).flatten := by
 intro m
 induction m with
 | zero => exact Reps.none R size
 | succ m ih =>
  rw [List.replicate_succ', List.replicate_succ', List.flatten_append]
  simpa using Reps.snoc ih h0 hc
theorem madeCells_pair (a b : Value) (n : Nat) : (madeCells #[a, b] (n * 2)).toList = (List.replicate n [a, b]).flatten := by
 have h : ∀ n : Nat, (List.range (n * 2)).map (fun j => (#[a, b] : Array Value)[j % 2]!) = (List.replicate n [a, b]).flatten := by
  intro n
  induction n with
  | zero => rfl
  | succ n ih =>
   rw [show (n + 1) * 2 = n * 2 + 1 + 1 by omega, List.range_succ, List.range_succ, List.map_append, List.map_append, ih, List.replicate_succ', List.flatten_append]
   have e0 : n * 2 % 2 = 0 := by omega
   have e1 : (n * 2 + 1) % 2 = 1 := by omega
   simp [e0, e1]
 rw [← h n]
 simp [madeCells, Array.toList_range]
theorem wpList_copyN {P : Program} {w : World} {ops : Array Oper} {rest : List Oper} {o : Oper} {a : Act} {Q : Exit → Act → World → Prop} (hgd : o.guard = none) (d s : Operand) (dT sT : TypeId)
  (ho : o.op = .call { callee := .builtin .copy, args := #[d, s], argTypes := #[dT, sT] }) (elem : TypeId) (sz : Nat) (hu : P.underlying dT = some (.slice elem)) (hsz : (P.info? elem).map (·.size) = some sz)
  (g off dLen dCap : Nat) (ad : Addr) (sLen sCap : Nat) (hd : a.eval d = .slice (some ⟨g, off, none⟩) dLen dCap) (hs : a.eval s = .slice (some ad) sLen sCap)
  (m : Nat) (cur : Array Value) (t : TypeId) (hg : w.heap[g]? = some (.cells cur t (0, 0))) (cs : List Value) (hm : m = Nat.min sLen dLen) (hn : cs.length = m * sz)
  (hsrc : ∀ j v, cs[j]? = some v → w.cell? (ad.add j) = some v) (hfit : off + cs.length ≤ cur.size) (h1 : ∀ v ∈ cs, v.oneCell' = true)
  (h : wpList P ops Q rest (a.put o.dst (goInt m)) (w.setRow g (cur.toList.take off ++ (cs ++ cur.toList.drop (off + cs.length))).toArray)) : wpList P ops Q (o :: rest) a w := by
 refine wpList_plain hgd fun K hK => ?_
 have hrun := run_copyN (P := P) w dT sT o.type elem g off dLen dCap ad sLen sCap sz m cur t cs hu hsz hg hm hn hsrc hfit h1
 unfold Oper.wp
 simp [execOp, ho, resolve, invoke, builtin, hd, hs, hrun, Result.andThen]
 exact hK _ _ h
theorem step_copyN {P : Program} {ops : Array Oper} {o : Oper} {a : Act} {w : World} {K : Act → World → Prop} {Q : Exit → Act → World → Prop} {E : Prop} (hgd : o.guard = none) (d s : Operand) (dT sT : TypeId)
  (ho : o.op = .call { callee := .builtin .copy, args := #[d, s], argTypes := #[dT, sT] }) (elem : TypeId) (sz : Nat) (hu : P.underlying dT = some (.slice elem)) (hsz : (P.info? elem).map (·.size) = some sz)
  (g off dLen dCap : Nat) (ad : Addr) (sLen sCap : Nat) (hd : a.eval d = .slice (some ⟨g, off, none⟩) dLen dCap) (hs : a.eval s = .slice (some ad) sLen sCap)
  (m : Nat) (cur : Array Value) (t : TypeId) (hg : w.heap[g]? = some (.cells cur t (0, 0))) (cs : List Value) (hm : m = Nat.min sLen dLen) (hn : cs.length = m * sz)
  (hsrc : ∀ j v, cs[j]? = some v → w.cell? (ad.add j) = some v) (hfit : off + cs.length ≤ cur.size) (h1 : ∀ v ∈ cs, v.oneCell' = true)
  (h : K (a.put o.dst (goInt m)) (w.setRow g (cur.toList.take off ++ (cs ++ cur.toList.drop (off + cs.length))).toArray)) :
  if Region.wanted o (yielded ops a.tmps) = true then Oper.wp P o a w K Q else E := by
 have hw : Region.wanted o (yielded ops a.tmps) = true := by simp [Region.wanted, hgd]
 rw [if_pos hw]
 have hrun := run_copyN (P := P) w dT sT o.type elem g off dLen dCap ad sLen sCap sz m cur t cs hu hsz hg hm hn hsrc hfit h1
 unfold Oper.wp
 simp [execOp, ho, resolve, invoke, builtin, hd, hs, hrun, Result.andThen]
 exact h
theorem wpList_makeN (w : World) {ops : Array Oper} {rest : List Oper} {o : Oper} {a : Act} {Q : Exit → Act → World → Prop} {P : Program}
  (hg : o.guard = none) (l c : Operand) (t : TypeId) (hop : o.op = Op.makeSlice t l c)
  (e : TypeId) (z : Value) (sz bytes : Nat) (ht : P.underlying t = some (.slice e)) (hinfo : (P.info? e).map (fun i => (i.zero, i.size, i.bytes)) = some (some z, sz, bytes))
  (kl kc : IntKind) (n : Nat) (hl : a.eval l = .int kl (n : Int)) (hc : a.eval c = .int kc (n : Int)) (hbytes : bytes * n ≤ 281474976710656) (h63 : n ≤ 9223372036854775807)
  (hK : wpList P ops Q rest (a.put o.dst (.slice (some ⟨w.heap.size, 0, none⟩) n n)) (w.alloc (.cells (madeCells z.cells (n * sz)) e))) :
  wpList P ops Q (o :: rest) a w := by
 refine wpList_plain hg fun K hK' => ?_
 obtain ⟨i0, hi, hzz⟩ := Option.map_eq_some_iff.1 hinfo
 simp only [Prod.mk.injEq] at hzz
 obtain ⟨hz0, hz1, hz2⟩ := hzz
 have hrun := run_make (P := P) w t e i0 z ht hi hz0 kl kc (n : Int) (n : Int) (by omega) (by omega)
  (by
   have h3 : ((i0.bytes * n : Nat) : Int) ≤ 281474976710656 := by rw [hz2]; omega
   rwa [Int.natCast_mul] at h3) (by omega)
 simp only [Int.toNat_natCast] at hrun
 rw [hz1] at hrun
 unfold Oper.wp
 simp [execOp, hop, hl, hc, hrun, Result.andThen]
 exact hK' _ _ hK
theorem rowC_one {m n : Nat} {x z : List Value} (hx : ∀ v ∈ x, v.oneCell' = true) : ∀ v ∈ (List.replicate m x).flatten, v.oneCell' = true := by
 intro v hv
 rw [List.mem_flatten] at hv
 obtain ⟨l, hl, hv⟩ := hv
 rw [List.mem_replicate] at hl
 exact hx v (hl.2 ▸ hv)
theorem wpList_copyRow {P : Program} {w : World} {ops : Array Oper} {rest : List Oper} {o : Oper} {a : Act} {Q : Exit → Act → World → Prop} (hgd : o.guard = none) (d s : Operand) (dT sT : TypeId)
  (ho : o.op = .call { callee := .builtin .copy, args := #[d, s], argTypes := #[dT, sT] }) (elem : TypeId) (sz : Nat) (hu : P.underlying dT = some (.slice elem)) (hsz : (P.info? elem).map (·.size) = some sz)
  (g off dLen dCap : Nat) (ad : Addr) (sLen sCap : Nat) (hd : a.eval d = .slice (some ⟨g, off, none⟩) dLen dCap) (hs : a.eval s = .slice (some ad) sLen sCap)
  (m n k : Nat) (x z : List Value) (t : TypeId) (hg : w.heap[g]? = some (.cells (rowC m n x z).toArray t (0, 0))) (hx : x.length = sz) (hz : z.length = sz) (hoff : off = m * sz) (hmk : m + k ≤ n) (hk : k = Nat.min sLen dLen)
  (hsrc : ∀ j v, (List.replicate k x).flatten[j]? = some v → w.cell? (ad.add j) = some v) (h1 : ∀ v ∈ x, v.oneCell' = true) (B : Nat) (w0 : World) (hb : Below B w0 w) (hBg : B ≤ g)
  (h : ∀ w', Hid (w'.heap[g]? = some (.cells (rowC (m + k) n x z).toArray t (0, 0))) → Hid (Below B w0 w') → wpList P ops Q rest (a.put o.dst (goInt k)) w') : wpList P ops Q (o :: rest) a w := by
 have hl := rowC_len hx hz (Nat.le_trans (Nat.le_add_right m k) hmk)
 have hf : (List.replicate k x).flatten.length = k * sz := by rw [flat_len, hx]
 refine wpList_copyN hgd d s dT sT ho elem sz hu hsz g off dLen dCap ad sLen sCap hd hs k (rowC m n x z).toArray t hg ((List.replicate k x).flatten) hk hf hsrc ?_ (rowC_one (n := n) (z := z) h1) (h _ ?_ (below_setRow hb hBg _))
 ·rw [hf, hoff, ← Nat.add_mul]
  simp only [List.size_toArray]
  rw [hl]
  exact Nat.mul_le_mul_right _ hmk
 ·show _ = _
  rw [setRow_heap w g _ _ t _ hg, hoff]
  simp only
  rw [rowC_copy hx hz hmk]
theorem step_copyRow {P : Program} {ops : Array Oper} {o : Oper} {a : Act} {w : World} {K : Act → World → Prop} {Q : Exit → Act → World → Prop} {E : Prop} (hgd : o.guard = none) (d s : Operand) (dT sT : TypeId)
  (ho : o.op = .call { callee := .builtin .copy, args := #[d, s], argTypes := #[dT, sT] }) (elem : TypeId) (sz : Nat) (hu : P.underlying dT = some (.slice elem)) (hsz : (P.info? elem).map (·.size) = some sz)
  (g off dLen dCap : Nat) (ad : Addr) (sLen sCap : Nat) (hd : a.eval d = .slice (some ⟨g, off, none⟩) dLen dCap) (hs : a.eval s = .slice (some ad) sLen sCap)
  (m n k : Nat) (x z : List Value) (t : TypeId) (hg : w.heap[g]? = some (.cells (rowC m n x z).toArray t (0, 0))) (hx : x.length = sz) (hz : z.length = sz) (hoff : off = m * sz) (hmk : m + k ≤ n) (hk : k = Nat.min sLen dLen)
  (hsrc : ∀ j v, (List.replicate k x).flatten[j]? = some v → w.cell? (ad.add j) = some v) (h1 : ∀ v ∈ x, v.oneCell' = true) (B : Nat) (w0 : World) (hb : Below B w0 w) (hBg : B ≤ g)
  (h : ∀ w', Hid (w'.heap[g]? = some (.cells (rowC (m + k) n x z).toArray t (0, 0))) → Hid (Below B w0 w') → K (a.put o.dst (goInt k)) w') :
  if Region.wanted o (yielded ops a.tmps) = true then Oper.wp P o a w K Q else E := by
 have hl := rowC_len hx hz (Nat.le_trans (Nat.le_add_right m k) hmk)
 have hf : (List.replicate k x).flatten.length = k * sz := by rw [flat_len, hx]
 refine step_copyN hgd d s dT sT ho elem sz hu hsz g off dLen dCap ad sLen sCap hd hs k (rowC m n x z).toArray t hg ((List.replicate k x).flatten) hk hf hsrc ?_ (rowC_one (n := n) (z := z) h1) (h _ ?_ (below_setRow hb hBg _))
 ·rw [hf, hoff, ← Nat.add_mul]
  simp only [List.size_toArray]
  rw [hl]
  exact Nat.mul_le_mul_right _ hmk
 ·show _ = _
  rw [setRow_heap w g _ _ t _ hg, hoff]
  simp only
  rw [rowC_copy hx hz hmk]
def xRepeat.f (l : List S62) (n : Int) : Option (List S62) := if l.length = 1 ∧ 1 ≤ n ∧ n ≤ 20 then some (List.replicate n.toNat (rd_T62 l 0)) else none
set_option maxHeartbeats 4000000 in
set_option maxRecDepth 100000 in
theorem xRepeat.calls (A0 : Option Addr) (c0 : Nat) (l0 : List S62) (a1 : Int) (r : List S62) (w : World) (hr0 : Kd.C k62 w A0 l0.length l0) (hc0 : l0.length ≤ c0) (h : xRepeat.f l0 a1 = some r) :
  Calls Try.prog 113 #[.slice A0 l0.length c0, .int .i64 a1] w fun e w' => ∃ v0_ : Value, e = .returned v0_ ∧ Kd.R k62 62 w' w.heap.size (fun _ => True) v0_ r ∧ Below w.heap.size w w' := by
 unfold xRepeat.f at h
 obtain ⟨⟨hl, h1, h2⟩, h⟩ : (l0.length = 1 ∧ 1 ≤ a1 ∧ a1 ≤ 20) ∧ List.replicate a1.toNat (rd_T62 l0 0) = r := by
  split at h
  ·rename_i hh
   exact ⟨hh, Option.some.inj h⟩
  ·cases h
 obtain ⟨n, rfl⟩ := Int.eq_ofNat_of_zero_le (a := a1) (by omega)
 rw [Int.toNat_natCast] at h
 have hn1 : 1 ≤ n := by omega
 have hn2 : n ≤ 20 := by omega
 obtain ⟨ad, rfl, hca0, hcb0⟩ := at_T62 hr0 0 (by omega) (by omega)
 rw [hl]
 rw [hl] at hc0
 generalize hx : rd_T62 l0 0 = x at *
 subst h
 have hca : w.cell? ad = some (.int .i64 x.f0) := by simpa [Addr.add] using hca0
 have hcb : w.cell? ⟨ad.block, ad.off + 1, none⟩ = some (.int .i64 x.f1) := by simpa [Addr.add] using hcb0
 clear hca0 hcb0
 have hwr : IntKind.u64.wrap (n : Int) = (n : Int) := by rw [IntKind.wrap_u64]; omega
 have hwi : IntKind.i64.wrap (n : Int) = (n : Int) := by rw [IntKind.wrap_i64]; omega
 have hneg : decide ((n : Int) < 0) = false := decide_eq_false (by omega)
 have hM : ∀ W : World, Calls Try.prog 135 #[.int .u64 1, .int .u64 (n : Int)] W fun e w' => e = .returned (.tuple #[.int .u64 0, .int .u64 (n : Int)]) ∧ w' = W := by
  intro W
  have h := bitsMul_calls 1 n (by omega) (by omega) W
  rw [show 1 * n / 18446744073709551616 = 0 by omega, show 1 * n % 18446744073709551616 = n by omega] at h
  exact h
 have HM := Lib.hid hM
 clear hM
 clear hr0 hl hx h1 h2
 go_enter Try.func113, Try.ntmps113
 obtain ⟨cx, hcx⟩ : ∃ cx : List Value, cx = [.int .i64 x.f0, .int .i64 x.f1] := ⟨_, rfl⟩
 have hmk : madeCells (.agg #[.int .i64 0, .int .i64 0] : Value).cells (n * 2) = (rowC 0 n cx [.int .i64 0, .int .i64 0]).toArray := by
  apply Array.toList_inj.mp
  rw [show (Value.agg #[.int .i64 0, .int .i64 0]).cells = #[.int .i64 0, .int .i64 0] from rfl, madeCells_pair]
  simp [rowC]
 have hlt : ad.block < w.heap.size := block_lt_of_cell hca
 have hsrc : ∀ W, Below w.heap.size w W → ∀ j v, (List.replicate 1 cx).flatten[j]? = some v → W.cell? (ad.add j) = some v := by
  intro W hb j v hj
  rw [hcx] at hj
  match j, hj with
  | 0, hj => 
   simp at hj
   subst hj
   exact (hb.cell (p := ad.add 0) hlt).trans hca
  | 1, hj => 
   simp at hj
   subst hj
   exact (hb.cell (p := ad.add 1) hlt).trans hcb
  | j + 2, hj => simp at hj
 have HS := Lib.hid hsrc
 have HK := Lib.hid hmk
 have hl1 : cx.length = 2 := by rw [hcx]; rfl
 have ho1 : ∀ v ∈ cx, v.oneCell' = true := by
  rw [hcx]
  intro v hv
  simp at hv
  rcases hv with rfl | rfl <;> rfl
 have HX := Lib.hid hcx
 have HO := Lib.hid ho1
 clear hsrc hmk hcx ho1 h hca hcb hlt
 have HN := Lib.hid (show 1 = Nat.min 1 n by show 1 = min 1 n; omega)
 go_wp2_with (first | (go_at_call 135; refine (HM.out _).mono ?_; rintro e w' ⟨rfl, hw⟩; rw [hw]; clear hw w') | (at_make; refine wpList_makeN _ rfl _ _ 52 rfl 62 _ 2 16 Try.underlying52 info62 .i64 .i64 n rfl rfl (by omega) (by omega) ?_; rw [HK.out]) | ((with_reducible refine gate_builtin (b := .copy) (xs := #[.tmp 31, .tmp 32]) rfl ?_); refine wpList_copyRow rfl _ _ 52 52 rfl 62 2 Try.underlying52 (by kernel_rfl) w.heap.size 0 n n ad 1 c0 rfl rfl 0 n 1 cx [.int .i64 0, .int .i64 0] 62 (heap_alloc_new w _) hl1 rfl rfl (by omega) HN.out (HS.out _ (below_alloc (Below.refl _ _) _)) HO.out w.heap.size w (below_alloc (Below.refl _ _) _) (Nat.le_refl _) ?_; intro w1 HG HB))
 obtain ⟨g, hg⟩ : ∃ g, g = w.heap.size := ⟨_, rfl⟩
 rw [← hg] at HG ⊢
 have HGE := Lib.hid (show w.heap.size ≤ g by omega)
 clear hg
 go_loopw [8] (fun v8 wr => ∃ m : Nat, 1 ≤ m ∧ m ≤ n ∧ v8 = .int .i64 m ∧ Hid (wr.heap[g]? = some (.cells (rowC m n cx [.int .i64 0, .int .i64 0]).toArray 62 (0, 0))) ∧ Hid (Below w.heap.size w wr)) (fun v8 _ => n - (intOf v8).toNat)
 case atStart => exact ⟨1, by omega, by omega, rfl, HG, HB⟩
 case round =>
  clear HG HB
  obtain ⟨m, hm1, hm2, rfl, HG, HB⟩ := hrel
  by_cases hlt : m < n
  ·have hid : decide ((m : Int) < (n : Int)) = true := decide_eq_true (by omega)
   obtain ⟨k, hk, hmk, hk1⟩ : ∃ k : Nat, k = Nat.min m (n - m) ∧ m + k ≤ n ∧ 1 ≤ k := ⟨_, rfl, by show m + min m (n - m) ≤ n; omega, by show 1 ≤ min m (n - m); omega⟩
   have hkm : k ≤ m := by rw [hk]; exact Nat.min_le_left _ _
   have HN2 := Lib.hid hk
   have hsrc : ∀ j v, (List.replicate k cx).flatten[j]? = some v → wr.drew.cell? ((⟨g, 0, none⟩ : Addr).add j) = some v := by
    intro j v hj
    have h1 := flat_get_pre (m := m) cx (List.replicate (n - m) [.int .i64 0, .int .i64 0]).flatten hkm j v hj
    have h2 := cell_of_row wr.drew g j _ 62 (0, 0) HG.out
    rw [show (⟨g, 0, none⟩ : Addr).add j = ⟨g, j, none⟩ by cases j <;> simp [Addr.add], h2]
    simpa [rowC] using h1
   have HS2 := Lib.hid hsrc
   have hb2 : (m : Int) ≤ (n : Int) := by omega
   have hb3 : (0 : Int) ≤ (m : Int) := by omega
   clear hk hsrc
   go_wp2
   go_region_law (refine step_copyRow rfl (.tmp 41) (.tmp 44) 52 52 rfl 62 2 Try.underlying52 (by kernel_rfl) g (m * 2) (n - m) (n - m) ⟨g, 0, none⟩ m n (by simp [Act.eval, Act.put]; omega) (by simp [Act.eval, Act.put]) m n k cx [.int .i64 0, .int .i64 0] 62 HG.out hl1 rfl rfl hmk HN2.out HS2.out HO.out w.heap.size w (below_drew1 HB.out) HGE.out ?_; intro w1 HG1 HB1)
   go_wp2
   go_roundw
   case rel => exact ⟨m + k, by omega, hmk, (by rw [IntKind.wrap_i64]; omega), HG1⟩
   case measure =>
    have hw : IntKind.i64.wrap ((m : Int) + (k : Int)) = ((m + k : Nat) : Int) := by rw [IntKind.wrap_i64]; omega
    rw [hw]
    simp only [intOf, Int.toNat_natCast]
    omega
  ·have hid : decide ((m : Int) < (n : Int)) = false := decide_eq_false (by omega)
   obtain rfl : m = n := by omega
   go_wp2
   go_ret
   have hlen := rowC_len (m := m) (n := m) hl1 (show ([.int .i64 0, .int .i64 0] : List Value).length = 2 from rfl) (Nat.le_refl _)
   refine ⟨_, rfl, ⟨fun _ _ => trivial, rowC m m cx [.int .i64 0, .int .i64 0], ⟨?_, .inr ⟨g, m, (rowC m m cx [.int .i64 0, .int .i64 0]).toArray, ?_, HGE.out, HG.out, ?_, ?_, ?_, ?_⟩⟩, ?_⟩, HB.out⟩
   ·rw [List.length_replicate]
    exact hlen
   ·simp
   ·simp
   ·simp [maxLen]; omega
   ·exact hlen
   ·rw [List.length_replicate]
    exact List.take_of_length_le (by show (rowC m m cx _).length ≤ m * 2; omega)
   ·have h := reps_replicate (R := k62.M wr w.heap.size (fun k => True ∧ some k ≠ (Value.slice (some ⟨g, 0, none⟩) m m).ownBlock)) (z0 := x) hl1 (by rw [HX.out]; exact k62_mkM _ _ _ x) m
    have e : rowC m m cx [.int .i64 0, .int .i64 0] = (List.replicate m cx).flatten := by simp [rowC]
    rw [e]
    exact h
end Go.Proofs.Ytefmafbbnkkpjaa.X
