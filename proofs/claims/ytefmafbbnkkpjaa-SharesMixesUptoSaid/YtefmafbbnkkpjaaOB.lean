/- What a slice, or a struct of two fields, that came in holds, and how much there is of it at the most: opened once, kind by kind, over any program. -/
import Derived.Test.YtefmafbbnkkpjaaRows
import Derived.Test.YtefmafbbnkkpjaaK
import Derived.ChangeShapes
import Derived.Deep.Slices
import Derived.Deep.Strs
import Derived.DataReads
namespace Go.Proofs.Ytefmafbbnkkpjaa.OB
open Go.ChangeShapes Go.WideShapes Go.RowKit Go.Proofs.YtefmafbbnkkpjaaW.PrintWords
set_option linter.unusedVariables false
set_option linter.unusedSimpArgs false

/-- What a type's cells hold, told by a kind. -/
def Opn {α : Type} (P : Program) (t : TypeId) (d : Kd α) (ok : α → Prop) (m : α → Nat) : Prop :=
  P.cellsOf t = d.sz ∧ ∀ (H : Type) (enc : TypeId × Value → H) (w : World) (base : Nat) (held : Bool) (fuel : Nat) (cs : List Value) (x : DataW H × List MemPlace),
    DataW.trod enc P w base (fun _ => true) held fuel t cs = some x → ∃ a, d.K w a cs ∧ ok a ∧ m a ≤ Rows.uptoBulk x.1

theorem one_le {H : Type} (d : DataW H) : 1 ≤ Rows.uptoBulk d := by
  cases d with
  | lit l => cases l <;> simp [Rows.uptoBulk]
  | nil => simp [Rows.uptoBulk]
  | ptr d => simp [Rows.uptoBulk]
  | slice elems spare => simp [Rows.uptoBulk]
  | agg parts => simp [Rows.uptoBulk]
  | iface t d => simp [Rows.uptoBulk]
  | map entries => simp [Rows.uptoBulk]
  | held h => simp [Rows.uptoBulk]
theorem all_app {H : Type} (l r : List (DataW H)) : Rows.uptoBulkAll (l ++ r) = Rows.uptoBulkAll l + Rows.uptoBulkAll r := by
  induction l with
  | nil => simp [Rows.uptoBulkAll]
  | cons x l ih => simp only [List.cons_append, Rows.uptoBulkAll, ih]; omega
theorem opn_int {P : Program} {t : TypeId} {k : IntKind} (ht : P.underlying t = some (.int k)) (hc : P.cellsOf t = 1) : Opn P t (Kd.int k) (fun n => (Lit.int k n).wf = true) (fun _ => 1) := by
  refine ⟨hc, fun H enc w base held fuel cs x h => ?_⟩
  obtain ⟨n, rfl, _, hw⟩ := DataW.trod_int ht h
  exact ⟨n, rfl, hw, one_le _⟩
theorem opn_slice {α : Type} {P : Program} {t e : TypeId} {d : Kd α} {ok : α → Prop} {me : α → Nat} (ht : P.underlying t = some (.slice e)) (hc : P.cellsOf t = 1) (ho : Opn P e d ok me) :
    Opn P t (Kd.slice e d) (fun l => l.length ≤ maxLen ∧ ∀ x ∈ l, ok x) (fun l => (l.map me).sum + 1) := by
  refine ⟨hc, fun H enc w base held fuel cs x h => ?_⟩
  rcases Deep.open_slice ht h with ⟨rfl, _⟩ | ⟨a, len, cap, m, n, D, Pl, rfl, hb, hl, hm, hmm, hxe, hel⟩
  · exact ⟨[], ⟨none, 0, rfl, Nat.le_refl _, Kd.C_nil d w⟩, ⟨by simp, by simp⟩, one_le _⟩
  · have hmm2 : m = cap := by simpa using hmm
    subst hmm2
    have each : ∀ i : Nat, ∃ y : Option α, i < len → ∃ z cs', y = some z ∧ w.cells? base (a.add (i * P.cellsOf e)) (P.cellsOf e) = some cs' ∧ d.K w z cs' ∧ ok z ∧ me z ≤ Rows.uptoBulk (D i) := by
      intro i
      by_cases hi : i < len
      · obtain ⟨cs', h1, h2⟩ := hel i (by omega)
        obtain ⟨z, hz, hok, hme⟩ := ho.2 H enc w base held n cs' _ h2
        exact ⟨some z, fun _ => ⟨z, cs', rfl, h1, hz, hok, hme⟩⟩
      · exact ⟨none, fun h => absurd h hi⟩
    have hY := fun i => Classical.choose_spec (each i)
    have hlist : ∀ k, k ≤ len → ∃ l : List α, l.length = k ∧ (l.map me).sum ≤ Rows.uptoBulkAll ((List.range k).map D) ∧ ∀ (j : Nat) (z : α), l[j]? = some z → ∃ cs', w.cells? base (a.add (j * P.cellsOf e)) (P.cellsOf e) = some cs' ∧ d.K w z cs' ∧ ok z := by
      intro k
      induction k with
      | zero => exact fun _ => ⟨[], rfl, by simp, by simp⟩
      | succ k ih =>
        intro hk
        obtain ⟨l, hl1, hls, hl2⟩ := ih (by omega)
        obtain ⟨z, cs', _, h1, h2, h3, h4⟩ := hY k (by omega)
        refine ⟨l ++ [z], by simp [hl1], ?_, fun j z' hj => ?_⟩
        · rw [List.map_append, List.sum_append, List.range_succ, List.map_append, all_app]
          simp only [List.map_cons, List.map_nil, List.sum_cons, List.sum_nil, Rows.uptoBulkAll]
          omega
        rcases Nat.lt_or_ge j l.length with hjl | hjl
        · rw [List.getElem?_append_left hjl] at hj
          exact hl2 j z' hj
        · have hjk : j = k := by
            have := (List.getElem?_eq_some_iff.1 hj).1
            simp at this
            omega
          subst hjk
          have hz : z = z' := by
            rw [← hl1] at hj
            simpa using hj
          subst hz
          exact ⟨cs', h1, h2, h3⟩
    obtain ⟨l, hl1, hls, hl2⟩ := hlist len (Nat.le_refl _)
    refine ⟨l, ⟨some a, m, by rw [hl1], by omega, ?_⟩, ⟨by unfold maxLen at *; omega, fun z hz => ?_⟩, ?_⟩
    · refine ⟨rfl, by unfold maxLen at hm; omega, fun _ => ⟨a, rfl, fun j z hj => ?_⟩⟩
      obtain ⟨cs', h1, h2, h3⟩ := hl2 j z hj
      obtain ⟨_, hlen, hcell⟩ := World.cells?_some h1
      refine ⟨cs', by rw [hlen, ho.1], h2, fun i u hu => ?_⟩
      have hi : i < P.cellsOf e := by
        have := (List.getElem?_eq_some_iff.1 hu).1
        omega
      have := hcell i hi
      rw [hu, Deep.add_add] at this
      rw [← ho.1]
      exact this
    · obtain ⟨j, hj, rfl⟩ := List.getElem_of_mem hz
      obtain ⟨_, _, _, h3⟩ := hl2 j _ (List.getElem?_eq_getElem hj)
      exact h3
    · rw [hxe]
      simp only [Rows.uptoBulk]
      omega
theorem opn_pair {α β : Type} {P : Program} {t : TypeId} {f0 f1 : Field} {d0 : Kd α} {d1 : Kd β} {ok0 : α → Prop} {ok1 : β → Prop} {m0 : α → Nat} {m1 : β → Nat} (ht : P.underlying t = some (.struct #[f0, f1])) (hc : P.cellsOf t = 2)
    (o0 : f0.offset = 0) (o1 : f1.offset = 1) (h0 : Opn P f0.type d0 ok0 m0) (h1 : Opn P f1.type d1 ok1 m1) (c0 : d0.sz = 1) (c1 : d1.sz = 1) :
    Opn P t (Kd.pair d0 d1) (fun x => ok0 x.1 ∧ ok1 x.2) (fun _ => 1) := by
  refine ⟨by rw [hc]; show 2 = d0.sz + d1.sz; omega, fun H enc w base held fuel cs x h => ?_⟩
  obtain ⟨y0, y1, n, _, hl, g0, g1⟩ := trod_struct2 ht h
  rw [hc] at hl
  rw [o0, h0.1, c0] at g0
  rw [o1, h1.1, c1] at g1
  match cs, hl with
  | [u, v], _ =>
    obtain ⟨a, ha, oa, _⟩ := h0.2 H enc w base held n _ _ g0
    obtain ⟨b, hb, ob, _⟩ := h1.2 H enc w base held n _ _ g1
    exact ⟨(a, b), ⟨[u], [v], rfl, ha, hb⟩, ⟨oa, ob⟩, one_le _⟩
theorem opn_iso {α β : Type} {P : Program} {t : TypeId} {d : Kd α} {ok : α → Prop} {m : α → Nat} (h : Opn P t d ok m) (f : β → α) (g : α → β) (hfg : ∀ a, f (g a) = a) : Opn P t (Kd.iso d f) (fun b => ok (f b)) (fun b => m (f b)) :=
  ⟨h.1, fun H enc w base held fuel cs x hx => by
    obtain ⟨a, ha, oa, ma⟩ := h.2 H enc w base held fuel cs x hx
    exact ⟨g a, (by show d.K w (f (g a)) cs; rw [hfg]; exact ha), (by show ok (f (g a)); rw [hfg]; exact oa), (by show m (f (g a)) ≤ _; rw [hfg]; exact ma)⟩⟩
/-- A slice that came in, opened. -/
theorem opened {α : Type} {P : Program} {t e : TypeId} {d : Kd α} {ok : α → Prop} {me : α → Nat} (ht : P.underlying t = some (.slice e)) (hc : P.cellsOf t = 1) (ho : Opn P e d ok me) {H : Type} {enc : TypeId × Value → H} {w : World} {base : Nat} {held : Bool} {A : Option Addr} {len cap : Nat} {dd : DataW H} {ps : List MemPlace}
    (h : DataW.Trod enc P w base (fun _ => true) held t (.slice A len cap) dd ps) : ∃ l : List α, len = l.length ∧ l.length ≤ cap ∧ d.C w A l.length l ∧ l.length ≤ maxLen ∧ (∀ x ∈ l, ok x) ∧ (l.map me).sum + 1 ≤ Rows.uptoBulk dd := by
  obtain ⟨fuel, hf⟩ := h
  obtain ⟨l, ⟨A', c', hcs, hl, hC⟩, ⟨h1, h2⟩, h3⟩ := (opn_slice ht hc ho).2 H enc w base held fuel _ _ hf
  simp [Value.cells] at hcs
  obtain ⟨rfl, rfl, rfl⟩ := hcs
  exact ⟨l, rfl, hl, hC, h1, h2, h3⟩
theorem sum_ones {α : Type} : ∀ l : List α, (l.map fun _ => 1).sum = l.length
  | [] => rfl
  | a :: l => by rw [List.map_cons, List.sum_cons, sum_ones l, List.length_cons]; omega
theorem sum_lens {α : Type} : ∀ l : List (List α), (l.map fun r => (r.map fun _ => 1).sum + 1).sum = l.flatten.length + l.length
  | [] => rfl
  | a :: l => by rw [List.map_cons, List.sum_cons, sum_lens l, sum_ones, List.flatten_cons, List.length_append, List.length_cons]; omega
end Go.Proofs.Ytefmafbbnkkpjaa.OB
