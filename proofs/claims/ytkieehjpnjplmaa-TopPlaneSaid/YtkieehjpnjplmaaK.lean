/- Short words for the walks: steps of a region, and facts of memory carried on, whose side goals are shown by themselves. -/
import Derived.Test.YtkieehjpnjplmaaProg
import Derived.Below
import Derived.Deep.Draws
import Derived.Deep.AppendLies
import Derived.Maps.AppendAt
import Derived.OwnWalk
import Derived.Laws.BytesArg
import Derived.Laws.MakeOwn
import Derived.Laws.OwnMore
import Derived.Deep.OwnRows
import Derived.Tactics
import Derived.Lib.ConvBytes
import Derived.Laws.Slices
import Derived.WalkKit
import Derived.KernelRfl
import Derived.RowKit3
import Derived.Deep.LoopGhost
import Derived.Deep.QuietTactic
import Derived.BigQuiet
import Derived.WideLaws
import Derived.Deep.DeepCutAuto
import Derived.Deep.CutBlock
import Derived.Deep.RegionHeld3
import Derived.Laws.Rows
import Derived.Lib.AppendStr
import Derived.ArgAppend
import Derived.Laws.IdiomCopy
import Derived.OrdersHeld
import Derived.Laws.BitsLemmas
import Derived.RowKit
import Derived.Test.YtkieehjpnjplmaaWAll
set_option linter.unusedVariables false
namespace Go.Proofs.YtkieehjpnjplmaaW.PrintLast
open Go.RowKit Go.Proofs.YtkieehjpnjplmaaW.PrintWords Go.Proofs.YtkieehjpnjplmaaW.PrintMore
section
variable {P : Program} {ops : Array Oper} {Q : Exit → Act → World → Prop} {md : Region.Mode} {S : World → Prop} {ds : List Nat} {T : Bool × List (List Nat × List Nat)} {B : List Nat}
/-- What has come up, told by the bits of a number. -/
def ba (n b : Nat) : Array Bool := ((List.range n).map (fun i => b.testBit i)).toArray
/-- An operation that yields in every world. -/
theorem pS (i N n b : Nat) {oi : Oper} {v : Value} {fuel : Nat} {l : Array Bool} {a a' : Act} {w : World} (h : wpAnyLast P md ops Q S ds fuel (ba n b) a' w) (HT : Aside0 (rtab md ops = T) := by exact HT_)
    (hi : ops[i]? = some oi := by rfl) (hN : oi.dst = some N := by rfl) (hc : anyT T l.toList (ba n b).toList i = true := by kernel_rfl)
    (hw : Region.wanted oi (yielded ops a.tmps) = true := by rfl) (hy : ∀ w, (execOp a.eval oi).run P w = .ok (.value v) w := by (intro w'; go_simp; with_reducible rfl))
    (ha : a.put (some N) v = a' := by (simp only [Act.put, List.setIfInBounds_toArray, List.set_cons_zero, List.set_cons_succ, i64_w, i32_w]; rfl)) (hQ : ∀ c a w, Q (.panic c) (a.put oi.dst v) w → Q (.panic c) a w := by exact fun _ _ _ h => h) :
    wpAnyLast P md ops Q S ds (fuel + 1) l a w := pure_ (ba n b) hi hN (any_of HT.out hc) hQ (Or.inl ⟨hw, hy⟩) ha h
/-- One that is not wanted. -/
theorem uS (i N n b : Nat) {oi : Oper} {fuel : Nat} {l : Array Bool} {a a' : Act} {w : World} (h : wpAnyLast P md ops Q S ds fuel (ba n b) a' w) (HT : Aside0 (rtab md ops = T) := by exact HT_)
    (hi : ops[i]? = some oi := by rfl) (hN : oi.dst = some N := by rfl) (hc : anyT T l.toList (ba n b).toList i = true := by kernel_rfl)
    (hw : Region.wanted oi (yielded ops a.tmps) = false := by rfl)
    (ha : a.put (some N) undef = a' := by (simp only [Act.put, List.setIfInBounds_toArray, List.set_cons_zero, List.set_cons_succ, i64_w, i32_w]; rfl)) (hQ : ∀ c a w, Q (.panic c) (a.put oi.dst undef) w → Q (.panic c) a w := by exact fun _ _ _ h => h) :
    wpAnyLast P md ops Q S ds (fuel + 1) l a w := pure_ (ba n b) hi hN (any_of HT.out hc) hQ (Or.inr ⟨hw, rfl⟩) ha h
/-- One that reads what is held. -/
theorem tS {w : World} (i N n b : Nat) {oi : Oper} {v : Value} {fuel : Nat} {l : Array Bool} {a a' : Act} (h : wpAnyLast P md ops Q S ds fuel (ba n b) a' w) (HT : Aside0 (rtab md ops = T) := by exact HT_) (HW : Aside0 (waitsOk T.2 B = true) := by exact HW_) (hS : S w := by exact hHeld)
    (hi : ops[i]? = some oi := by rfl) (hN : oi.dst = some N := by rfl) (hc : takeW T B ds l.toList (ba n b).toList i = true := by kernel_rfl)
    (hw : Region.wanted oi (yielded ops a.tmps) = true := by rfl) (hy : ∀ w, S w → (execOp a.eval oi).run P w = .ok (.value v) w := by (intro w' hs_; go_simp; with_reducible rfl))
    (ha : a.put (some N) v = a' := by (simp only [Act.put, List.setIfInBounds_toArray, List.set_cons_zero, List.set_cons_succ, i64_w, i32_w]; rfl)) (hQ : ∀ c a w, Q (.panic c) (a.put oi.dst v) w → Q (.panic c) a w := by exact fun _ _ _ h => h) :
    wpAnyLast P md ops Q S ds (fuel + 1) l a w := take_ (ba n b) hi hN (take_ofW HT.out HW.out hc) hQ (Or.inl ⟨hw, hy⟩) hS ha h
/-- A call by its contract. -/
theorem gC {oi : Oper} {N : Option Tmp} {a : Act} {w : World} {K : Act → World → Prop} {f : FuncId} {fn : Func} {ars : Array Operand} {ts : Array TypeId} (hf : P.funcs[f]? = some fn) (args : Array Value)
    (h : Calls P f args w fun e w' => ∃ v, e = .returned v ∧ K (a.put N v) w') (hname : (fn.name == "runtime.NumGoroutine") = false := by kernel_rfl) (hb : fn.body.isSome = true := by rfl)
    (hw : Region.wanted oi (yielded ops a.tmps) = true := by rfl) (hN : oi.dst = N := by rfl) (hop : oi.op = .call { callee := .value (.func f), args := ars, argTypes := ts } := by rfl)
    (hargs : ars.map a.eval = args := by ((try simp only [List.map_toArray, List.map_cons, List.map_nil]); first | done | rfl | (simp only [List.length_drop, List.length_take]; rfl))) :
    if Region.wanted oi (yielded ops a.tmps) = true then Oper.wp P oi a w K Q else K (a.put N undef) w := goes_ hf hname hb args hw hN hop hargs h
theorem gL {rest : List Oper} {oi : Oper} {a : Act} {w : World} (n : Nat) {f : FuncId} {fn : Func} {ars : Array Operand} {ts : Array TypeId} (hf : P.funcs[f]? = some fn) (args : Array Value)
    (h : Calls P f args w fun e w' => ∃ v, e = .returned v ∧ wpList P ops Q rest (a.put (some n) v) w') (hd : oi.dst = some n := by rfl) (hg : oi.guard = none := by rfl) (hname : (fn.name == "runtime.NumGoroutine") = false := by kernel_rfl) (hb : fn.body.isSome = true := by rfl)
    (hop : oi.op = .call { callee := .value (.func f), args := ars, argTypes := ts } := by rfl)
    (hargs : ars.map a.eval = args := by ((try simp only [List.map_toArray, List.map_cons, List.map_nil]); first | done | rfl | (simp only [List.length_drop, List.length_take]; rfl))) : wpList P ops Q (oi :: rest) a w := goesL_ (some n) hd hg hf hname hb args hop hargs h
/-- A new block. -/
theorem bE {o : Oper} {rest : List Oper} {a : Act} {W : World} (N : Nat) (cs : Array Value) (t : TypeId)
    (h : ∀ g, g = W.heap.size → ∀ w1, w1.heap[g]? = some (.cells cs t (0, 0)) → Below W.heap.size W w1 → wpList P ops Q rest (a.put o.dst (.pointer (some ⟨g, 0, none⟩))) w1) (hd : o.dst = some N := by rfl) (hgd : o.guard = none := by rfl)
    (hrun : (execOp a.eval o).run P W = .ok (.value (.pointer (some ⟨W.heap.size, 0, none⟩))) (W.alloc (.cells cs t (0, 0))) := by first | (go_simp; done) | (go_simp; rfl)) : wpList P ops Q (o :: rest) a W := box_event hgd hd hrun h
/-- The world has grown since w. -/
theorem hbC (w : World) {W : World} (h : Below w.heap.size w W := by
    repeat (first | (with_reducible first | exact HB.out | apply below_alloc | apply pw_below_drewN | apply below_drew1 | refine below_set ?_ (Aside0.out (by assumption))) | exact HB.out)) : Below w.heap.size w W := h
/-- A block stands as it stood. -/
theorem bkC {W w : World} {g : Nat} {o : Obj} (a : Aside0 (W.heap[g]? = some o)) (h : W.heap[g]? = some o → w.heap[g]? = some o := by
    (intro a_; (with_reducible repeat (first | refine blk_drewN ?_ _ | refine blk_drew ?_ | refine blk_alloc ?_ _)); exact a_)) : w.heap[g]? = some o := h a.out
/-- A row stands as it stood. -/
theorem rC {α : Type} {d : Kd α} {e base : Nat} {ok : Nat → Prop} {v : Value} {xs : List α} {W w : World} (a : Aside0 (d.R e W base ok v xs)) (h : d.R e W base ok v xs → d.R e w base ok v xs := by
    (intro a_; (with_reducible repeat (first | apply Kd.R_alloc | apply Kd.R_drewN | apply Kd.R_drew)); exact a_)) : d.R e w base ok v xs := h a.out
theorem kB {W w w' : World} {g : Nat} {o : Obj} (a : Aside0 (W.heap[g]? = some o)) (hb : Below w.heap.size w w') (h : W.heap[g]? = some o → w.heap[g]? = some o := by
    (intro a_; (with_reducible repeat (first | refine blk_drewN ?_ _ | refine blk_drew ?_ | refine blk_alloc ?_ _)); exact a_)) : Aside0 (w'.heap[g]? = some o) := ⟨blk_below (h a.out) hb⟩
theorem kL {W w : World} {g gn : Nat} {o : Obj} (a : Aside0 (W.heap[g]? = some o)) (hg : gn = w.heap.size) (h : W.heap[g]? = some o → w.heap[g]? = some o := by
    (intro a_; (with_reducible repeat (first | refine blk_drewN ?_ _ | refine blk_drew ?_ | refine blk_alloc ?_ _)); exact a_)) : Aside0 (g ≠ gn) := ⟨by rw [hg]; exact Nat.ne_of_lt (blk_lt (h a.out))⟩
theorem kR {W w : World} {g gn : Nat} {o : Obj} (a : Aside0 (W.heap[g]? = some o)) (hg : gn = w.heap.size) (h : W.heap[g]? = some o → w.heap[g]? = some o := by
    (intro a_; (with_reducible repeat (first | refine blk_drewN ?_ _ | refine blk_drew ?_ | refine blk_alloc ?_ _)); exact a_)) : Aside0 (gn ≠ g) := ⟨by rw [hg]; exact Nat.ne_of_gt (blk_lt (h a.out))⟩
theorem kH (w : World) {W w2 : World} (hb : Below W.heap.size W w2) (h : Below w.heap.size w W := by
    repeat (first | (with_reducible first | exact HB.out | apply below_alloc | apply pw_below_drewN | apply below_drew1 | refine below_set ?_ (Aside0.out (by assumption))) | exact HB.out)) : Aside0 (Below w.heap.size w w2) := ⟨below_step h hb⟩
theorem kG (w : World) {W : World} {g : Nat} (hg : g = W.heap.size) (h : Below w.heap.size w W := by
    repeat (first | (with_reducible first | exact HB.out | apply below_alloc | apply pw_below_drewN | apply below_drew1 | refine below_set ?_ (Aside0.out (by assumption))) | exact HB.out)) : Aside0 (w.heap.size ≤ g) := ⟨by rw [hg]; exact below_size h⟩
theorem kO {α : Type} {d : Kd α} {e base : Nat} {ok : Nat → Prop} {v : Value} {xs : List α} {W w w' : World} (a : Aside0 (d.R e W base ok v xs)) (hb : Below w.heap.size w w') (h : d.R e W base ok v xs → d.R e w base ok v xs := by
    (intro a_; (with_reducible repeat (first | apply Kd.R_alloc | apply Kd.R_drewN | apply Kd.R_drew)); exact a_)) : Aside0 (d.R e w' base ok v xs) := ⟨Kd.R_below (h a.out) hb⟩
theorem bc {w : World} {g : Nat} {t : TypeId} {cs : Array Value} (a : Aside0 (w.heap[g]? = some (.cells cs t (0, 0)))) (i : Nat) {v : Value} (h : cs[i]? = some v := by rfl) : w.cell? ⟨g, i, none⟩ = some v := (blk_cell a.out i).trans h
/-- Behind stores elsewhere too. -/
theorem bF {W w : World} {g : Nat} {o : Obj} (a : Aside0 (W.heap[g]? = some o)) (h : W.heap[g]? = some o → w.heap[g]? = some o := by
    (intro a_; repeat (first | (with_reducible first | exact a_ | refine blk_drewN ?_ _ | refine blk_drew ?_ | refine blk_alloc ?_ _) | (refine blk_far ?_ (Aside0.out (by with_reducible assumption)) _)); try exact a_)) : w.heap[g]? = some o := h a.out
theorem kC {α : Type} {d : Kd α} {A : Option Addr} {n : Nat} {xs : List α} {w W : World} (a : Aside0 (d.C w A n xs)) (h : d.C w A n xs → d.C W A n xs := by
    (intro a_; repeat (first | exact (Kd.C_below a_ HB.out) | (with_reducible refine Kd.C_alloc ?_ _) | (with_reducible refine Kd.C_drewN ?_ _) | (with_reducible refine Kd.C_drew ?_)))) : d.C W A n xs := h a.out
theorem kD {α : Type} {d : Kd α} {A : Option Addr} {n : Nat} {xs : List α} {w W : World} (a : d.C w A n xs) (h : d.C w A n xs → d.C W A n xs := by
    (intro a_; repeat (first | exact a_ | (with_reducible refine Kd.C_alloc ?_ _) | (with_reducible refine Kd.C_drewN ?_ _) | (with_reducible refine Kd.C_drew ?_)))) : d.C W A n xs := h a
theorem ak {p : Prop} (h : p) : Aside0 p := ⟨h⟩
theorem rD {α : Type} {d : Kd α} {e base : Nat} {ok : Nat → Prop} {v : Value} {xs : List α} {W w : World} (a : d.R e W base ok v xs) (h : d.R e W base ok v xs → d.R e w base ok v xs := by
    (intro a_; (with_reducible repeat (first | apply Kd.R_alloc | apply Kd.R_drewN | apply Kd.R_drew)); exact a_)) : d.R e w base ok v xs := h a
abbrev nb (k : Nat) (v : Value) : Prop := some k ≠ v.ownBlock
theorem kM {α : Type} {d : Kd α} {e base : Nat} {ok ok' : Nat → Prop} {v : Value} {xs : List α} {w : World} (a : Aside0 (d.R e w base ok v xs)) (h : ∀ k, ok k → ok' k := by (intro k_ hk_; simpa only [and_assoc] using hk_)) : d.R e w base ok' v xs := Kd.R_mono a.out h
theorem kT {α β γ : Type} {d : Kd α} {d1 : Kd β} {d2 : Kd γ} {e e1 e2 base : Nat} {ok ok1 ok2 : Nat → Prop} {v v1 v2 : Value} {xs : List α} {ys : List β} {zs : List γ} {W w w1 w2 w3 : World} (a : Aside0 (d.R e W base ok v xs)) (hb : Below w.heap.size w w1)
    (h1 : d1.R e1 w2 w.heap.size ok1 v1 ys) (h2 : d2.R e2 w3 w.heap.size ok2 v2 zs) (h : d.R e W base ok v xs → d.R e w base ok v xs := by
    (intro a_; (with_reducible repeat (first | apply Kd.R_alloc | apply Kd.R_drewN | apply Kd.R_drew)); exact a_)) : Aside0 (d.R e w1 base (fun k => (ok k ∧ some k ≠ v1.ownBlock) ∧ some k ≠ v2.ownBlock) v xs) :=
  ⟨Kd.R_mono (Kd.R_told (Kd.R_told (Kd.R_old (h a.out) hb) (Kd.R_base h1)) (Kd.R_base h2)) (fun _ h_ => h_.1)⟩
theorem kd {w : World} {g : Nat} {o : Obj} (a : Aside0 (w.heap[g]? = some o)) : Aside0 (w.drew.heap[g]? = some o) := ⟨blk_drew a.out⟩
theorem fz {w : World} {g : Nat} {t : TypeId} {cs : Array Value} (a : Aside0 (w.heap[g]? = some (.cells cs t (0, 0)))) (i : Nat) : w.frozen? ⟨g, i, none⟩ = false := blk_frozen a.out i
theorem dA {p : Prop} [Decidable p] (h : decide p = true := by first | (with_reducible assumption) | assumption) : p := of_decide_eq_true h
end
section
variable {P : Program} {ops : Array Oper} {Q : Exit → Act → World → Prop} {S : World → Prop} {ds : List Nat}
theorem sS {id n : Nat} {a : Act} {w : World} (hS : S w.drew) (h : S w.drew → wpAnyLast P .any ops Q S ds n (ba n 0) a w.drew) (hm : P.follows .mixedOrders = true := by kernel_rfl) (hn : ops.size = n := by rfl) (hl : Array.replicate n false = ba n 0 := by kernel_rfl) :
    (Code.region id ops true).wp P Q a w := start_ (ba n 0) hm hn hl hS h
end
end Go.Proofs.YtkieehjpnjplmaaW.PrintLast
