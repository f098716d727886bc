/- A list of samples opened to its words. -/
import Derived.Test.YtbmfcedndbgpoaaGreatStepNorm
import Derived.Test.YtbmfcedndbgpoaaGreatOpen
namespace Go.Proofs.YtbmfcedndbgpoaaGreat
open Go.ChangeShapes Go.WideShapes Go.ChangeAt Go.RowKit Go.Deep
set_option linter.unusedVariables false
theorem wd_of {n : Int} (h : (Lit.int .i32 n).wf = true) : ∃ x : Wd, n = x.v := ⟨⟨n, bounds_i32 h⟩, rfl⟩
theorem samples_open {H : Type} {enc : TypeId × Value → H} {w : World} {base : Nat} {spare : Nat → Bool} {held : Bool} {fuel : Nat} {A : Option Addr} {len cap : Nat} {x : DataW H × List MemPlace}
    (h : DataW.trod enc Tryz.prog w base spare held fuel 45 [.slice A len cap] = some x) : len ≤ maxLen ∧ ∀ i, i < len → SampleAt w A i := by
  obtain ⟨h1, h2, h3⟩ := open_elems Tryz.underlying45 (C := 9) (by kernel_rfl) (by omega) h
  refine ⟨Nat.le_trans h1 h2, fun i hi => ?_⟩
  obtain ⟨g, off, rfl, hel⟩ := h3 (by omega)
  obtain ⟨cs, m, y, hcl, hcell, ht⟩ := hel i hi
  have hlv : leaves Tryz.prog 6 41 = [21, 21, 21, 21, 21, 21, 21, 21, 21] := by kernel_rfl
  have L := trod_leaves (enc := enc) 6 41 (by kernel_rfl) m cs _ (by rw [hlv]; simpa using hcl) ht
  rw [hlv] at L
  have c0 := hcell 0 (by omega)
  have c1 := hcell 1 (by omega)
  have c2 := hcell 2 (by omega)
  have c3 := hcell 3 (by omega)
  have c4 := hcell 4 (by omega)
  have c5 := hcell 5 (by omega)
  have c6 := hcell 6 (by omega)
  have c7 := hcell 7 (by omega)
  have c8 := hcell 8 (by omega)
  obtain ⟨n0, e0, f0⟩ := leaf_int Tryz.underlying21 (L 0 _ rfl)
  obtain ⟨n1, e1, f1⟩ := leaf_int Tryz.underlying21 (L 1 _ rfl)
  obtain ⟨n2, e2, f2⟩ := leaf_int Tryz.underlying21 (L 2 _ rfl)
  obtain ⟨n3, e3, f3⟩ := leaf_int Tryz.underlying21 (L 3 _ rfl)
  obtain ⟨n4, e4, f4⟩ := leaf_int Tryz.underlying21 (L 4 _ rfl)
  obtain ⟨n5, e5, f5⟩ := leaf_int Tryz.underlying21 (L 5 _ rfl)
  obtain ⟨n6, e6, f6⟩ := leaf_int Tryz.underlying21 (L 6 _ rfl)
  obtain ⟨n7, e7, f7⟩ := leaf_int Tryz.underlying21 (L 7 _ rfl)
  obtain ⟨n8, e8, f8⟩ := leaf_int Tryz.underlying21 (L 8 _ rfl)
  obtain ⟨x0, rfl⟩ := wd_of f0
  obtain ⟨x1, rfl⟩ := wd_of f1
  obtain ⟨x2, rfl⟩ := wd_of f2
  obtain ⟨x3, rfl⟩ := wd_of f3
  obtain ⟨x4, rfl⟩ := wd_of f4
  obtain ⟨x5, rfl⟩ := wd_of f5
  obtain ⟨x6, rfl⟩ := wd_of f6
  obtain ⟨x7, rfl⟩ := wd_of f7
  obtain ⟨x8, rfl⟩ := wd_of f8
  exact ⟨g, off, x0, x1, x2, x3, x4, x5, x6, x7, x8, rfl, c0.trans e0, c1.trans e1, c2.trans e2, c3.trans e3, c4.trans e4, c5.trans e5, c6.trans e6, c7.trans e7, c8.trans e8⟩
end Go.Proofs.YtbmfcedndbgpoaaGreat
