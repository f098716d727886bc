/- The root of any word. -/
import Derived.Test.YtbmfcedndbgpoaaGreatRootLaw3
namespace Go.Proofs.YtbmfcedndbgpoaaGreat
open Go.RowKit Go.Deep
set_option linter.unusedVariables false
theorem root_0 {x : Wd} (l : 1073741824 ≤ x.v) : (rootU x).v = x.v / 4 ∧ (rootW x).2.v = 0 := by
  have ok := x.ok
  unfold In32 at ok
  have ht : rootT x = kW 0 := by
    apply Wd.ext_
    show andI (clzI x.v) (kW 30).v = (kW 0).v
    rw [clz_of 30 1073741824 (by decide) (by decide) l (by omega)]; decide +kernel
  constructor
  · show shrI (shlI x.v (rootT x).v) (kW 2).v = _
    rw [ht]
    unfold shrI shlI
    rw [show sh (kW 0).v = 0 by decide +kernel, show sh (kW 2).v = 2 by decide +kernel, show ((2 : Int) ^ 2) = 4 by decide, show ((2 : Int) ^ 0) = 1 by decide]
    unfold wrap32
    omega
  · show shrI (rootT x).v (kW 1).v = _
    rw [ht]
    decide +kernel
/-- Of any word from 256 on. -/
theorem even_word {x : Wd} (h0 : 256 ≤ x.v) :
    ∃ (h : Nat) (H : Int), (rootW x).2 = kW h ∧ h ≤ 11 ∧ H = 2 ^ h ∧ H ≤ 2048 ∧ 0 < H ∧ (x.v - 3) * (H * H) ≤ 4 * (rootU x).v ∧ 268435456 ≤ (rootU x).v ∧ (rootU x).v < 1073741824 := by
  have ok := x.ok
  unfold In32 at ok
  by_cases c0 : 1073741824 ≤ x.v
  · obtain ⟨a, b⟩ := root_0 (x := x) c0
    exact ⟨0, 1, Wd.ext_ (b.trans (by decide +kernel)), by decide, by decide, by decide, by decide, by omega, by omega, by omega⟩
  by_cases c1 : 268435456 ≤ x.v
  · obtain ⟨a, b⟩ := root_1 (x := x) c1 (by omega)
    exact ⟨1, 2, Wd.ext_ (b.trans (by decide +kernel)), by decide, by decide, by decide, by decide, by omega, by omega, by omega⟩
  by_cases c2 : 67108864 ≤ x.v
  · obtain ⟨a, b⟩ := root_2 (x := x) c2 (by omega)
    exact ⟨2, 4, Wd.ext_ (b.trans (by decide +kernel)), by decide, by decide, by decide, by decide, by omega, by omega, by omega⟩
  by_cases c3 : 16777216 ≤ x.v
  · obtain ⟨a, b⟩ := root_3 (x := x) c3 (by omega)
    exact ⟨3, 8, Wd.ext_ (b.trans (by decide +kernel)), by decide, by decide, by decide, by decide, by omega, by omega, by omega⟩
  by_cases c4 : 4194304 ≤ x.v
  · obtain ⟨a, b⟩ := root_4 (x := x) c4 (by omega)
    exact ⟨4, 16, Wd.ext_ (b.trans (by decide +kernel)), by decide, by decide, by decide, by decide, by omega, by omega, by omega⟩
  by_cases c5 : 1048576 ≤ x.v
  · obtain ⟨a, b⟩ := root_5 (x := x) c5 (by omega)
    exact ⟨5, 32, Wd.ext_ (b.trans (by decide +kernel)), by decide, by decide, by decide, by decide, by omega, by omega, by omega⟩
  by_cases c6 : 262144 ≤ x.v
  · obtain ⟨a, b⟩ := root_6 (x := x) c6 (by omega)
    exact ⟨6, 64, Wd.ext_ (b.trans (by decide +kernel)), by decide, by decide, by decide, by decide, by omega, by omega, by omega⟩
  by_cases c7 : 65536 ≤ x.v
  · obtain ⟨a, b⟩ := root_7 (x := x) c7 (by omega)
    exact ⟨7, 128, Wd.ext_ (b.trans (by decide +kernel)), by decide, by decide, by decide, by decide, by omega, by omega, by omega⟩
  by_cases c8 : 16384 ≤ x.v
  · obtain ⟨a, b⟩ := root_8 (x := x) c8 (by omega)
    exact ⟨8, 256, Wd.ext_ (b.trans (by decide +kernel)), by decide, by decide, by decide, by decide, by omega, by omega, by omega⟩
  by_cases c9 : 4096 ≤ x.v
  · obtain ⟨a, b⟩ := root_9 (x := x) c9 (by omega)
    exact ⟨9, 512, Wd.ext_ (b.trans (by decide +kernel)), by decide, by decide, by decide, by decide, by omega, by omega, by omega⟩
  by_cases c10 : 1024 ≤ x.v
  · obtain ⟨a, b⟩ := root_10 (x := x) c10 (by omega)
    exact ⟨10, 1024, Wd.ext_ (b.trans (by decide +kernel)), by decide, by decide, by decide, by decide, by omega, by omega, by omega⟩
  obtain ⟨a, b⟩ := root_11 (x := x) (by omega) (by omega)
  exact ⟨11, 2048, Wd.ext_ (b.trans (by decide +kernel)), by decide, by decide, by decide, by decide, by omega, by omega, by omega⟩
end Go.Proofs.YtbmfcedndbgpoaaGreat
