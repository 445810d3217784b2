/- What the rows' condition on the package's variable gives. -/
import Derived.Test.YtpnocmkpeogifaaDoorRows
import Derived.Test.YtpnocmkpeogifaaDoorEG
import Derived.Test.YtpnocmkpeogifaaDoorO
import Derived.ProofKit
import Derived.LaidMore
import Derived.MakeChecks
import Derived.OpenShut
import Derived.Stop.Joined
namespace Go.Proofs.YtpnocmkpeogifaaDoor
open Go.ChangeShapes Go.WideShapes Go.ChangeAt Go.RowKit
theorem gOne : Tryd.prog.globalNamed "congou/congoulaw04.one" = some 0 := by kernel_rfl
theorem tOne : (Tryd.prog.globals[0]?).map (·.type) = some 26 := by kernel_rfl
abbrev laid1 : List (String × DataW Unit) := [("congou/congoulaw04.one", Rows.laid_congou_congoulaw04_one)]
theorem door_met (os : Os) (args : Array Value) : laidMetH Tryd.prog laid1 ((World.doorLaid Tryd.prog 400 os).forCall (fun _ _ => 0) ⟨#[], args, []⟩).memory :=
  laidMetH_of_parts3 (fuel := 8) (laidMet_of_run' 8 (by kernel_rfl) (by kernel_rfl)) (by kernel_rfl) (by kernel_rfl)
theorem of_laid {W : World} (h : laidMetH Tryd.prog laid1 W) : X.GL W := by
  rw [MakeChecks.laidMetH_plain _ _ _ (by kernel_rfl)] at h
  obtain ⟨ps, ⟨g0, t0, cs0, f0, p0, q0, hg0, ht0, hv0, hd0, _⟩, _⟩ := h
  obtain rfl := Option.some.inj (gOne.symm.trans hg0)
  obtain rfl := Option.some.inj (tOne.symm.trans ht0)
  obtain ⟨y0, y1, n, hx, hl, h0, h1⟩ := trod_struct2 Tryd.underlying26 hd0
  have c26 : Tryd.prog.cellsOf 26 = 2 := by kernel_rfl
  have c3 : Tryd.prog.cellsOf 3 = 1 := by kernel_rfl
  rw [c26] at hl
  have v0 := World.var?_cell hg0 hv0 0
  have v1 := World.var?_cell hg0 hv0 1
  obtain ⟨l⟩ := cs0
  match l, hl with
  | [u, v], _ =>
    obtain ⟨a, ha, ea, _⟩ := DataW.trod_int Tryd.underlying3 h0
    obtain ⟨b, hb, eb, _⟩ := DataW.trod_int Tryd.underlying3 h1
    subst ea eb
    have hu : u = .int .i64 a := by simpa [c3] using ha
    have hv : v = .int .i64 b := by simpa [c3] using hb
    have hxx := (Prod.mk.injEq _ _ _ _ ▸ hx : _ ∧ _).1
    simp only [Rows.laid_congou_congoulaw04_one, DataW.agg.injEq, List.cons.injEq, DataW.lit.injEq, Lit.int.injEq] at hxx
    obtain ⟨⟨_, ea⟩, ⟨_, eb⟩, _⟩ := hxx
    subst ea eb hu hv
    exact ⟨by simpa using v0, by simpa using v1⟩
end Go.Proofs.YtpnocmkpeogifaaDoor
