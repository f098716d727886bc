/- BuildPlays: what is handed in; the type error's handle. -/
import Derived.Test.YtjfnpokebaagmaaGreatDoorPlays
import Derived.Test.YtjfnpokebaagmaaGreatDoorShaped
import Derived.Test.YtjfnpokebaagmaaGreatDoorOpen
import Derived.Test.YtjfnpokebaagmaaGreatDoorRows
import Derived.LaidHandle
import Derived.Lay
namespace Go.Proofs.YtjfnpokebaagmaaGreatDoor
open Go Go.RowKit Go.ChangeShapes Go.WideShapes
set_option linter.unusedVariables false
theorem choose_acts {P : Nat → ActL → Prop} : ∀ n, (∀ i, i < n → ∃ d, P i d) → ∃ ds : List ActL, ds.length = n ∧ ∀ i a, ds[i]? = some a → P i a
  | 0, _ => ⟨[], rfl, by simp⟩
  | n + 1, h => by
    obtain ⟨ds, hl, hd⟩ := choose_acts n (fun i hi => h i (by omega))
    obtain ⟨d, hp⟩ := h n (by omega)
    refine ⟨ds ++ [d], by simp [hl], fun i a ha => ?_⟩
    by_cases hi : i < n
    · rw [List.getElem?_append_left (by omega)] at ha
      exact hd i a ha
    · have hin : i = n := by
        have := (List.getElem?_eq_some_iff.1 ha).1
        simp at this
        omega
      subst hin
      rw [List.getElem?_append_right (by omega)] at ha
      simp [hl] at ha
      rw [← ha]
      exact hp
theorem i32_wf {n : Int} (h : (Lit.int .i32 n).wf = true) : -2147483648 ≤ n ∧ n ≤ 2147483647 := by
  simp [Lit.wf, IntKind.min, IntKind.max, IntKind.signed, IntKind.bits] at h
  omega
theorem open_acts {H : Type} {enc : TypeId × Value → H} {w : World} {base : Nat} {held : Bool} {fuel : Nat} {a0 : Option Addr} {n c : Nat} {x : DataW H × List MemPlace}
    (h : DataW.trod enc Tryz.prog w base (fun _ => true) held fuel 22 [.slice a0 n c] = some x) : ∃ l : List ActL, l.length = n ∧ l.length ≤ maxLen ∧ ASl w a0 l ∧ ∀ a ∈ l, (-2147483648 ≤ a.n ∧ a.n ≤ 2147483647) ∧ a.name.length ≤ maxLen := by
  obtain ⟨h1, h2, h3⟩ := open_elems Tryz.underlying22 (C := 10) (by kernel_rfl) (by omega) h
  have hlv : leaves Tryz.prog 2 27 = [3, 3, 3, 3, 3, 3, 9, 3, 3, 21] := by kernel_rfl
  have key : ∀ i, i < n → ∃ d : ActL, ((-2147483648 ≤ d.n ∧ d.n ≤ 2147483647) ∧ d.name.length ≤ maxLen) ∧ ∃ bk off, a0 = some ⟨bk, off, none⟩ ∧ ∀ (j : Nat) (v : Value), (actCells d)[j]? = some v → w.cell? ⟨bk, off + i * 10 + j, none⟩ = some v := by
    intro i hi
    obtain ⟨bk, off, rfl, hall⟩ := h3 (by omega)
    obtain ⟨cs, m, y, hl, hc, hy⟩ := hall i hi
    have hL := trod_leaves 2 27 (by kernel_rfl) m cs y (by rw [hl, hlv]; rfl) hy
    rw [hlv] at hL
    obtain ⟨r0, q0, _⟩ := leaf_int Tryz.underlying3 (hL 0 _ rfl)
    obtain ⟨r1, q1, _⟩ := leaf_int Tryz.underlying3 (hL 1 _ rfl)
    obtain ⟨r2, q2, _⟩ := leaf_int Tryz.underlying3 (hL 2 _ rfl)
    obtain ⟨r3, q3, _⟩ := leaf_int Tryz.underlying3 (hL 3 _ rfl)
    obtain ⟨r4, q4, _⟩ := leaf_int Tryz.underlying3 (hL 4 _ rfl)
    obtain ⟨r5, q5, _⟩ := leaf_int Tryz.underlying3 (hL 5 _ rfl)
    obtain ⟨r6, q6, h6⟩ := leaf_string Tryz.underlying9 (hL 6 _ rfl)
    obtain ⟨r7, q7, _⟩ := leaf_int Tryz.underlying3 (hL 7 _ rfl)
    obtain ⟨r8, q8, _⟩ := leaf_int Tryz.underlying3 (hL 8 _ rfl)
    obtain ⟨r9, q9, h9⟩ := leaf_int Tryz.underlying21 (hL 9 _ rfl)
    refine ⟨⟨r0, ⟨r1, r2, r3, r4, r5⟩, r6.data.toList, r7, r8, r9⟩, ⟨i32_wf h9, by simpa using h6⟩, bk, off, rfl, fun j v hv => ?_⟩
    match j, hv with
    | 0, hv => simp [actCells] at hv; subst hv; exact (hc 0 (by omega)).trans q0
    | 1, hv => simp [actCells] at hv; subst hv; exact (hc 1 (by omega)).trans q1
    | 2, hv => simp [actCells] at hv; subst hv; exact (hc 2 (by omega)).trans q2
    | 3, hv => simp [actCells] at hv; subst hv; exact (hc 3 (by omega)).trans q3
    | 4, hv => simp [actCells] at hv; subst hv; exact (hc 4 (by omega)).trans q4
    | 5, hv => simp [actCells] at hv; subst hv; exact (hc 5 (by omega)).trans q5
    | 6, hv => simp [actCells, strV] at hv; subst hv; exact (hc 6 (by omega)).trans q6
    | 7, hv => simp [actCells] at hv; subst hv; exact (hc 7 (by omega)).trans q7
    | 8, hv => simp [actCells] at hv; subst hv; exact (hc 8 (by omega)).trans q8
    | 9, hv => simp [actCells] at hv; subst hv; exact (hc 9 (by omega)).trans q9
    | j + 10, hv => simp [actCells] at hv
  obtain ⟨l, hl, hd⟩ := choose_acts n key
  refine ⟨l, hl, by rw [hl]; exact Nat.le_trans h1 h2, fun h0 => ?_, fun a ha => ?_⟩
  · obtain ⟨bk, off, rfl, _⟩ := h3 (by omega)
    refine ⟨bk, off, rfl, fun k a hk => ?_⟩
    obtain ⟨_, bk', off', e, hx⟩ := hd k a hk
    injection e with e; injection e with e1 e2 _
    subst e1 e2
    exact hx
  · obtain ⟨i, hi, rfl⟩ := List.mem_iff_getElem.1 ha
    exact (hd i _ (List.getElem?_eq_getElem hi)).1
theorem er_named : Tryz.prog.globalNamed "errors.errorType" = some 0 := by kernel_rfl
theorem er_rt : (Tryz.prog.cutTypes.find? (·.1 == "internal/reflectlite.rtype")).map (·.2) = some 149 := by kernel_rfl
theorem er_row : ((List.range Tryz.prog.types.size).filter fun t => Tryz.prog.rowNamed t [101, 114, 114, 111, 114]) = [99] := by kernel_rfl
/-- What the tied condition gives: the cell of the type error. -/
theorem ert_of_laid {W : World} {l : List (String × DataW Unit)} (hl : (l.filter fun x => x.2.handleName?.isSome) = [("errors.errorType", Rows.laid_errors_errorType)]) (h : laidMetH Tryz.prog l W) : ErT W := by
  unfold laidMetH at h
  rw [hl] at h
  obtain ⟨name, u, ty, e1, e2, e3, e4, e5⟩ := h.2 _ (List.mem_singleton.2 rfl)
  have en : name = [101, 114, 114, 111, 114] := (Option.some.inj e1).symm
  subst en
  obtain rfl := Option.some.inj (er_rt.symm.trans e2)
  have hm : ty ∈ (List.range Tryz.prog.types.size).filter fun t => Tryz.prog.rowNamed t [101, 114, 114, 111, 114] := List.mem_filter.2 ⟨List.mem_range.2 e3, e4⟩
  rw [er_row] at hm
  obtain rfl := List.mem_singleton.1 hm
  have hh : typeHandle Tryz.prog 99 = .pointer (some ⟨5, 99, none⟩) := by kernel_rfl
  rw [hh] at e5
  unfold ErT
  simpa using World.var?_cell er_named e5 0
def plainL : List (String × DataW Unit) := [("unicode/utf8.acceptRanges", Rows.laid_unicode_utf8_acceptRanges), ("unicode/utf8.first", Rows.laid_unicode_utf8_first)]
/-- A world that meets the condition. -/
noncomputable def hold1 (os : Os) : World :=
  let w0 := World.holding Tryz.prog os ⟨#[], #[], []⟩
  { w0 with heap := w0.heap.modify 0 fun
      | .cells _ t frozen => .cells #[.iface 149 (.agg #[.pointer (some ⟨5, 99, none⟩)])] t frozen
      | o => o }
noncomputable def laidW (os : Os) : World := (hold1 os).layVars Tryz.prog plainL
theorem laidW_os (os : Os) : (laidW os).os = os := World.layVars_os _ _ _
theorem laidW_met (os : Os) : laidMet Tryz.prog plainL (laidW os) := by
  have e1 : (plainL.filter fun x => (plainL.map (·.1)).contains x.1) = plainL := by kernel_rfl
  have e2 : (plainL.filter fun x => !(plainL.map (·.1)).contains x.1) = [] := by kernel_rfl
  exact laidMet_layVars (w0 := hold1 os) (plainL.map (·.1)) [] (by rw [e1]; rfl) (by rw [e1]; kernel_rfl) (by rw [e1]; kernel_rfl) (by rw [e2]; exact LaidIn.none)
end Go.Proofs.YtjfnpokebaagmaaGreatDoor
