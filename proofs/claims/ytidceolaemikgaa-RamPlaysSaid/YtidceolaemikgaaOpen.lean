/- How arguments are opened to cells, where the kit's own words for it do not reach: slices of structs. -/
import Derived.Test.YtidceolaemikgaaMem
import Derived.WalkKit
import Derived.ProofKit
import Derived.OpenShut
import Derived.Deep.Slices
namespace Go.Proofs.Ytidceolaemikgaa
open Go.ChangeShapes Go.WideShapes Go.ChangeAt Go.RowKit

section
variable {H : Type} {enc : TypeId × Value → H} {P : Program} {w : World} {base : Nat} {spare : Nat → Bool} {held : Bool}
/-- A slice that came in: its elements, of so many cells each, each with its own reading. -/
theorem open_elems {t e : TypeId} {fuel C : Nat} {a0 : Option Addr} {n c : Nat} {x : DataW H × List MemPlace} (ht : P.underlying t = some (.slice e)) (hC : P.cellsOf e = C) (h0 : 0 < C)
    (h : DataW.trod enc P w base spare held fuel t [.slice a0 n c] = some x) :
    n ≤ c ∧ c ≤ maxLen ∧ (0 < n → ∃ b off, a0 = some ⟨b, off, none⟩ ∧ ∀ i, i < n → ∃ cs m y, cs.length = C ∧
      (∀ j, j < C → w.cell? ⟨b, off + (i * C + j), none⟩ = cs[j]?) ∧ DataW.trod enc P w base spare held m e cs = some y) := by
  subst hC
  rcases Go.Deep.open_slice ht h with ⟨hcs, _⟩ | ⟨a, len, cap, m, k, D, Pl, hcs, hb, hl, hm, hmm, _, hi⟩
  · simp at hcs
    obtain ⟨rfl, rfl, rfl⟩ := hcs
    exact ⟨Nat.le_refl _, by simp [maxLen], fun h => absurd h (by omega)⟩
  · simp at hcs
    obtain ⟨rfl, rfl, rfl⟩ := hcs
    refine ⟨hl, hm, fun hn => ?_⟩
    have hat : ∀ i, i < n → ∃ cs m y, cs.length = P.cellsOf e ∧ (∀ j, j < P.cellsOf e → w.cell? (a.add (i * P.cellsOf e + j)) = cs[j]?) ∧ DataW.trod enc P w base spare held m e cs = some y := by
      intro i hin
      obtain ⟨cs, hc, ht'⟩ := hi i (by rw [hmm]; split <;> omega)
      obtain ⟨_, hcl, hat⟩ := World.cells?_some hc
      refine ⟨cs, k, _, hcl, fun j hj => ?_, ht'⟩
      rw [← hat j hj, ← Go.Deep.add_add]
    have ha : a = ⟨a.block, a.off, none⟩ := by
      obtain ⟨cs, _, _, hl, hc, _⟩ := hat 0 hn
      have h1 := hc 0 h0
      rw [List.getElem?_eq_getElem (by omega), show a.add (0 * P.cellsOf e + 0) = a by simp [Addr.add]] at h1
      exact plain_of_cell h1
    refine ⟨a.block, a.off, by rw [← ha], fun i hin => ?_⟩
    obtain ⟨cs, m, y, hl, hc, ht'⟩ := hat i hin
    refine ⟨cs, m, y, hl, fun j hj => ?_, ht'⟩
    rw [← hc j hj, ha, add_plain]
end

end Go.Proofs.Ytidceolaemikgaa
