/- All four parts of Even. -/
import Derived.Test.YtbmfcedndbgpoaaEvenLaw
namespace Go.Proofs.Ytbmfcedndbgpoaa
open Go.RowKit Go.Deep
set_option linter.unusedVariables false
theorem sq29 {g : Wd} (hg : -536870912 ≤ g.v ∧ g.v ≤ 536870912) : 0 ≤ (mulqW g g).v ∧ (mulqW g g).v ≤ 268435456 ∧ g.v * g.v ≤ 1073741824 * (mulqW g g).v + 536870912 := by
  have h := (ab (A := g.v) hg).2
  have p : 0 ≤ g.v * g.v := sq_nonneg _
  have q : (g.v.natAbs : Int) ≤ 536870912 := by omega
  rw [mulq_is (by generalize g.v * g.v = P at *; omega)]
  generalize g.v * g.v = P at *
  omega
theorem even_short (a b c d : Wd) (ha : -536870912 ≤ a.v ∧ a.v ≤ 536870912) (hb : -536870912 ≤ b.v ∧ b.v ≤ 536870912) (hc : -536870912 ≤ c.v ∧ c.v ≤ 536870912) (hd : -536870912 ≤ d.v ∧ d.v ≤ 536870912) :
    256 ≤ (addsW (normW a [b, c, d]) (kW 1024)).v ∧ (∀ g : Wd, g = a ∨ g = b ∨ g = c ∨ g = d → g.v * g.v ≤ 1073741824 * ((addsW (normW a [b, c, d]) (kW 1024)).v - 3)) := by
  obtain ⟨a0, a1, a2⟩ := sq29 ha
  obtain ⟨b0, b1, b2⟩ := sq29 hb
  obtain ⟨c0, c1, c2⟩ := sq29 hc
  obtain ⟨d0, d1, d2⟩ := sq29 hd
  have e : (addsW (normW a [b, c, d]) (kW 1024)).v = (mulqW a a).v + (mulqW b b).v + (mulqW c c).v + (mulqW d d).v + 1024 := by
    have k : (kW 1024).v = 1024 := kW_v (by decide)
    have s1 : (addsW (mulqW a a) (mulqW b b)).v = (mulqW a a).v + (mulqW b b).v := adds_is (by omega)
    have s2 : (addsW (addsW (mulqW a a) (mulqW b b)) (mulqW c c)).v = (mulqW a a).v + (mulqW b b).v + (mulqW c c).v := by rw [adds_is (by rw [s1]; omega), s1]
    have s3 : (addsW (addsW (addsW (mulqW a a) (mulqW b b)) (mulqW c c)) (mulqW d d)).v = (mulqW a a).v + (mulqW b b).v + (mulqW c c).v + (mulqW d d).v := by rw [adds_is (by rw [s2]; omega), s2]
    show (addsW (addsW (addsW (addsW (mulqW a a) (mulqW b b)) (mulqW c c)) (mulqW d d)) (kW 1024)).v = _
    rw [adds_is (by rw [s3, k]; omega), s3, k]
  rw [e]
  refine ⟨by omega, fun g hg => ?_⟩
  rcases hg with rfl | rfl | rfl | rfl <;> omega
end Go.Proofs.Ytbmfcedndbgpoaa
