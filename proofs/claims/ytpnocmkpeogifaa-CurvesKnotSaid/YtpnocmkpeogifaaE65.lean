/- slices.DeleteFunc at this program, with the question whether a number is a captured one: how many are left. -/
import Derived.Shelf.SlicesE.DeleteFunc
import Derived.Lib.SliceRun
import Derived.Test.YtpnocmkpeogifaaX0
namespace Go.Proofs
open Go.Shelf
def Try.l65_ren : Go.Shelf.Ren := ⟨fun | 10 => 65 | 6 => 73 | n => n, fun | 22 => 22 | 23 => 3 | 25 => 89 | 3 => 3 | 4 => 4 | 0 => 0 | n => n, fun | n => n⟩
theorem Try.l65 : Go.Proofs.SlLaysH.n10 Try.prog Try.l65_ren := {
  mixed := by kernel_rfl
  f6 := ⟨Try.f73.name, by decide, Try.func73.trans (congrArg some (by kernel_rfl))⟩
  f10 := ⟨Try.f65.name, by decide, Try.func65.trans (congrArg some (by kernel_rfl))⟩
  t0 := Try.underlying0
  a0 := Try.isAgg0
  z0 := Try.sizeOf0
  v0 := Try.zeroValue0
  t3 := Try.underlying3
  a3 := Try.isAgg3
  z3 := Try.sizeOf3
  v3 := Try.zeroValue3
  t4 := Try.underlying4
  a4 := Try.isAgg4
  z4 := Try.sizeOf4
  v4 := Try.zeroValue4
  t22 := Try.underlying22
  a22 := Try.isAgg22
  z22 := Try.sizeOf22
  v22 := Try.zeroValue22
  a23 := Try.isAgg3
  z23 := Try.sizeOf3
  t25 := Try.underlying89
  a25 := Try.isAgg89
  z25 := Try.sizeOf89
  v25 := Try.zeroValue89 }
end Go.Proofs
namespace Go.Proofs.Ytpnocmkpeogifaa.X
open Go Go.Proofs Go.RowKit Go.Shelf Go.Lib Go.Sort Go.Proofs.YtpnocmkpeogifaaW.PrintWords Go.Proofs.YtpnocmkpeogifaaW.PrintLast Go.Proofs.YtpnocmkpeogifaaW.PrintMore
set_option linter.unusedVariables false
set_option linter.unusedSimpArgs false
/-- how many numbers are not a certain one -/
def xDel.f (l : List Int) (k : Int) : Option Int := if l ≠ [] ∧ l.length < 17592186044416 then some ((l.filter fun x => !decide (x = k)).length : Int) else none
theorem xDel.gives (lim x : Int) (B : Nat) (W : World) (hc : W.cell? ⟨B, 0, none⟩ = some (.int .i64 lim)) :
    FnGives Try.prog 66 #[.pointer (some ⟨B, 0, none⟩)] #[.int .i64 x] (.bool (decide (x = lim))) W := by
  show Calls Try.prog 66 #[.int .i64 x, .pointer (some ⟨B, 0, none⟩)] W _
  have hbd : (x == lim) = decide (x = lim) := by by_cases h : x = lim <;> simp [h]
  rw [← hbd]
  go_enter Try.func66, Try.ntmps66
  go_wp2
  all_goals (go_ret; exact ⟨by simp_all, 0, rfl⟩)
theorem xDel.pred (lim : Int) (B : Nat) (w : World) (hB : B < w.heap.size) (hcell : w.cell? ⟨B, 0, none⟩ = some (.int .i64 lim)) :
    PredAt Try.prog 66 #[.pointer (some ⟨B, 0, none⟩)] (Value.int .i64) (fun x => decide (x = lim)) w :=
  fun W x hb => xDel.gives lim x B W ((hb.cell (p := ⟨B, 0, none⟩) hB).trans hcell)
theorem xDel.over (lim : Int) (B blk off size : Nat) (w : World) (hB : B < w.heap.size) (hne : B ≠ blk) (hcell : w.cell? ⟨B, 0, none⟩ = some (.int .i64 lim)) :
    PredOver Try.prog 66 #[.pointer (some ⟨B, 0, none⟩)] (Value.int .i64) (fun x => decide (x = lim)) blk off size w :=
  fun n os dk x _ => xDel.gives lim x B _ (by
    unfold sortWorld
    rw [cell?_grow _ _ _ (by show B < (putRow _ _ _ _ _).heap.size; rw [size_putRow]; exact hB), cell?_putRow_other _ _ blk off _ _ (Or.inl hne)]
    exact hcell)
theorem xDel.put_below {w : World} {g n base : Nat} (hg : base ≤ g) (d : Array Int) : Below base w (putRow (Value.int .i64) (Sort.ahead w n) g 0 d) := by
  refine ⟨rfl, rfl, rfl, by simp, fun k hk => ?_⟩
  have : g ≠ k := by omega
  simp [putRow, mapBlock, Sort.ahead, Array.getElem?_modify, this]
set_option maxHeartbeats 1000000 in
theorem xDel.row {w : World} {base : Nat} {ok : Nat → Prop} {v : Value} {l : List Int} (hv : Kd.R (Kd.int .i64) 3 w base ok v l) (hne : l ≠ []) (B : Nat) (k : Int) (hB : B < base) (hB2 : B < w.heap.size) (hc : w.cell? ⟨B, 0, none⟩ = some (.int .i64 k)) :
    Calls Try.prog 65 #[v, .func (.func 66) #[] #[.pointer (some ⟨B, 0, none⟩)]] w fun e w' => (∃ A c, e = .returned (.slice A (l.filter fun x => !decide (x = k)).length c)) ∧ Below base w w' := by
  have eg : ∀ args w, (callFunc 66 args).run Try.prog w = .ok (.enter 66 args) w := enters_of Try.func66 (by kernel_rfl) rfl
  obtain ⟨A, c, rfl⟩ := Kd.R_slice hv
  have hl : 0 < l.length := List.length_pos_iff.mpr hne
  obtain ⟨hn, hcap, hreads⟩ := Kd.R_reads' hv
  obtain ⟨ad, rfl, _⟩ := hreads.2.2 hl
  have hmax := hreads.2.1
  obtain ⟨g, rfl, hgb⟩ : ∃ g, ad = ⟨g, 0, none⟩ ∧ base ≤ g := by
    obtain ⟨inner, ho⟩ := Kd.R_own hv
    rcases ho.2 with ⟨h0, _⟩ | ⟨g, cap, cur, h1, hb, _⟩
    · injection h0 with h0; cases h0
    · injection h1 with h1; injection h1 with h1
      exact ⟨g, h1, hb⟩
  have hH : Holds (Value.int .i64) w g 0 l.toArray := by
    intro j hj
    have hj' : j < l.length := by simpa using hj
    have h := Kd.R_cell (0 : Int) hv (j : Int) (by omega) (by omega)
    rw [Int.toNat_natCast] at h
    rw [Nat.zero_add]
    refine ⟨h.1.trans ?_, h.2⟩
    congr 2
    simp [rdOf, hj', List.getD_eq_getElem?_getD]
  have hcon := AnyE.slices_DeleteFunc Try.l65 (Value.int .i64) (fun _ => rfl) (fun x => decide (x = k)) 66 #[.pointer (some ⟨B, 0, none⟩)] eg 0 Try.zeroValue3 g 0 c l.toArray w (xDel.pred k B w hB2 hc) (xDel.over k B g 0 l.toArray.size w hB2 (by omega) hc) hH (by simpa using hmax) (by simpa using hcap)
  change Calls Try.prog 65 _ _ _ at hcon
  simp only [List.size_toArray] at hcon
  refine hcon.mono ?_
  rintro e w' ⟨rfl, q, rfl⟩
  exact ⟨⟨_, _, rfl⟩, xDel.put_below hgb _⟩
end Go.Proofs.Ytpnocmkpeogifaa.X
