/- The table of math/bits in its package variable, at each moment of a call. -/
import Derived.Test.YtkieehjpnjplmaaDoorX0
import Derived.Lib.TrailingZeros
namespace Go.Proofs.YtkieehjpnjplmaaDoor.X
open Go.RowKit Go.Proofs.YtkieehjpnjplmaaDoorW.PrintWords Go.Proofs.YtkieehjpnjplmaaDoorW.PrintLast Go.Proofs.YtkieehjpnjplmaaDoorW.PrintMore
set_option linter.unusedVariables false
set_option linter.unusedSimpArgs false
/-- its 64 numbers -/
structure GL (w : World) : Prop where
  tab : ∀ j, j < Lib.deBruijn64tab.length → w.cell? ⟨1, j, none⟩ = some (.int .u8 (Lib.deBruijn64tab.getD j 0))
theorem GL.pos {w : World} (h : GL w) : 1 < w.heap.size := by
  refine Classical.byContradiction fun hn => ?_
  have := h.tab 0 (by decide)
  unfold World.cell? at this
  rw [Array.getElem?_eq_none (by simp only; omega)] at this
  exact absurd this (by simp)
theorem GL.to {w W : World} (h : GL w) (hb : Below w.heap.size w W) : GL W := by
  have e := hb.block 1 h.pos
  refine ⟨fun j hj => ?_⟩
  have h1 := h.tab j hj
  unfold World.cell? at *
  dsimp only at *
  rw [e]
  exact h1
theorem GL.ne {w : World} (h : GL w) {g : Nat} (hg : w.heap.size ≤ g) : g ≠ 1 := by
  have := h.pos; omega
/-- A call of a function value that lies in a slot. -/
theorem gV {P : Program} {ops : Array Oper} {Q : Exit → Act → World → Prop} {oi : Oper} {N : Option Tmp} {a : Act} {w : World} {K : Act → World → Prop} {f : FuncId} {fn : Func} {ars : Array Operand} {ts : Array TypeId} {o : Operand} (hf : P.funcs[f]? = some fn) (args : Array Value)
    (h : Calls P f args w fun e w' => ∃ v, e = .returned v ∧ K (a.put N v) w') (hev : a.eval o = .func (.func f) #[] #[] := by rfl) (hname : (fn.name == "runtime.NumGoroutine") = false := by kernel_rfl) (hb : fn.body.isSome = true := by rfl)
    (hw : Region.wanted oi (yielded ops a.tmps) = true := by rfl) (hN : oi.dst = N := by rfl) (hop : oi.op = .call { callee := .value o, args := ars, argTypes := ts } := by rfl)
    (hargs : ars.map a.eval = args := by ((try simp only [List.map_toArray, List.map_cons, List.map_nil]); first | done | rfl | (simp only [List.length_drop, List.length_take]; rfl))) :
    if Region.wanted oi (yielded ops a.tmps) = true then Oper.wp P oi a w K Q else K (a.put N undef) w := by
  refine call_ f args hw hN ?_ h
  have he := enters_ hf hname hb args w
  unfold execOp
  simp [hop, resolve, Deferred.ofValue, invoke, hev, hargs, he]
end Go.Proofs.YtkieehjpnjplmaaDoor.X
