/- The root of a word. -/
import Derived.Test.YtbmfcedndbgpoaaGreatRootLaw2
namespace Go.Proofs.YtbmfcedndbgpoaaGreat
open Go.RowKit Go.Deep
set_option linter.unusedVariables false
theorem clz_of {x : Wd} (k P : Nat) (hk : k ≤ 30) (hP : P = 2 ^ k) (h0 : (P : Int) ≤ x.v) (h1 : x.v < 2 * (P : Int)) : clzI x.v = 31 - (k : Int) := by
  have ok := x.ok
  unfold In32 at ok
  have pp : 0 < P := by rw [hP]; exact Nat.pow_pos (by decide)
  unfold clzI
  rw [show x.v % 4294967296 = x.v by omega]
  rw [Lib.bitLen_shift k x.v.toNat (by rw [← hP]; omega) (by omega)]
  have e : x.v.toNat / 2 ^ k = 1 := by
    rw [← hP]
    exact Nat.div_eq_of_lt_le (by omega) (by omega)
  rw [e, show Lib.bitLen 1 = 1 by decide +kernel]
  omega
theorem u_of {x : Wd} {t : Int} {T : Int} (n : Nat) (ht : rootT x = kW t) (hs : sh (kW t).v = n) (hT : (2 : Int) ^ n = 4 * T) (h0 : 0 ≤ x.v) (h1 : x.v * (4 * T) < 4294967296) : (rootU x).v = x.v * T := by
  show shrI (shlI x.v (rootT x).v) (kW 2).v = _
  rw [ht]
  unfold shrI shlI
  rw [hs, hT, show sh (kW 2).v = 2 by decide +kernel, show ((2 : Int) ^ 2) = 4 by decide]
  have ok := x.ok
  unfold In32 at ok
  rw [show x.v % 4294967296 = x.v by omega]
  have e : x.v * (4 * T) = 4 * (x.v * T) := by rw [Int.mul_left_comm]
  have q0 : 0 ≤ T := by
    have : (0 : Int) < 2 ^ n := Int.pow_pos (by decide)
    omega
  have q : 0 ≤ x.v * T := Int.mul_nonneg h0 q0
  rw [e] at h1 ⊢
  generalize x.v * T = y at *
  unfold wrap32
  omega
theorem root_1 {x : Wd} (l : 268435456 ≤ x.v) (r : x.v < 1073741824) : (rootU x).v = x.v * 1 ∧ (rootW x).2.v = 1 := by
  have ht : rootT x = kW 2 := by
    apply Wd.ext_
    show andI (clzI x.v) (kW 30).v = (kW 2).v
    by_cases c : x.v < 536870912
    · rw [clz_of 28 268435456 (by decide) (by decide) l (by omega)]; decide +kernel
    · rw [clz_of 29 536870912 (by decide) (by decide) (by omega) (by omega)]; decide +kernel
  refine ⟨u_of 2 ht (by decide +kernel) (by decide) (by omega) (by omega), ?_⟩
  show shrI (rootT x).v (kW 1).v = _
  rw [ht]
  decide +kernel
theorem root_2 {x : Wd} (l : 67108864 ≤ x.v) (r : x.v < 268435456) : (rootU x).v = x.v * 4 ∧ (rootW x).2.v = 2 := by
  have ht : rootT x = kW 4 := by
    apply Wd.ext_
    show andI (clzI x.v) (kW 30).v = (kW 4).v
    by_cases c : x.v < 134217728
    · rw [clz_of 26 67108864 (by decide) (by decide) l (by omega)]; decide +kernel
    · rw [clz_of 27 134217728 (by decide) (by decide) (by omega) (by omega)]; decide +kernel
  refine ⟨u_of 4 ht (by decide +kernel) (by decide) (by omega) (by omega), ?_⟩
  show shrI (rootT x).v (kW 1).v = _
  rw [ht]
  decide +kernel
theorem root_3 {x : Wd} (l : 16777216 ≤ x.v) (r : x.v < 67108864) : (rootU x).v = x.v * 16 ∧ (rootW x).2.v = 3 := by
  have ht : rootT x = kW 6 := by
    apply Wd.ext_
    show andI (clzI x.v) (kW 30).v = (kW 6).v
    by_cases c : x.v < 33554432
    · rw [clz_of 24 16777216 (by decide) (by decide) l (by omega)]; decide +kernel
    · rw [clz_of 25 33554432 (by decide) (by decide) (by omega) (by omega)]; decide +kernel
  refine ⟨u_of 6 ht (by decide +kernel) (by decide) (by omega) (by omega), ?_⟩
  show shrI (rootT x).v (kW 1).v = _
  rw [ht]
  decide +kernel
theorem root_4 {x : Wd} (l : 4194304 ≤ x.v) (r : x.v < 16777216) : (rootU x).v = x.v * 64 ∧ (rootW x).2.v = 4 := by
  have ht : rootT x = kW 8 := by
    apply Wd.ext_
    show andI (clzI x.v) (kW 30).v = (kW 8).v
    by_cases c : x.v < 8388608
    · rw [clz_of 22 4194304 (by decide) (by decide) l (by omega)]; decide +kernel
    · rw [clz_of 23 8388608 (by decide) (by decide) (by omega) (by omega)]; decide +kernel
  refine ⟨u_of 8 ht (by decide +kernel) (by decide) (by omega) (by omega), ?_⟩
  show shrI (rootT x).v (kW 1).v = _
  rw [ht]
  decide +kernel
theorem root_5 {x : Wd} (l : 1048576 ≤ x.v) (r : x.v < 4194304) : (rootU x).v = x.v * 256 ∧ (rootW x).2.v = 5 := by
  have ht : rootT x = kW 10 := by
    apply Wd.ext_
    show andI (clzI x.v) (kW 30).v = (kW 10).v
    by_cases c : x.v < 2097152
    · rw [clz_of 20 1048576 (by decide) (by decide) l (by omega)]; decide +kernel
    · rw [clz_of 21 2097152 (by decide) (by decide) (by omega) (by omega)]; decide +kernel
  refine ⟨u_of 10 ht (by decide +kernel) (by decide) (by omega) (by omega), ?_⟩
  show shrI (rootT x).v (kW 1).v = _
  rw [ht]
  decide +kernel
theorem root_6 {x : Wd} (l : 262144 ≤ x.v) (r : x.v < 1048576) : (rootU x).v = x.v * 1024 ∧ (rootW x).2.v = 6 := by
  have ht : rootT x = kW 12 := by
    apply Wd.ext_
    show andI (clzI x.v) (kW 30).v = (kW 12).v
    by_cases c : x.v < 524288
    · rw [clz_of 18 262144 (by decide) (by decide) l (by omega)]; decide +kernel
    · rw [clz_of 19 524288 (by decide) (by decide) (by omega) (by omega)]; decide +kernel
  refine ⟨u_of 12 ht (by decide +kernel) (by decide) (by omega) (by omega), ?_⟩
  show shrI (rootT x).v (kW 1).v = _
  rw [ht]
  decide +kernel
theorem root_7 {x : Wd} (l : 65536 ≤ x.v) (r : x.v < 262144) : (rootU x).v = x.v * 4096 ∧ (rootW x).2.v = 7 := by
  have ht : rootT x = kW 14 := by
    apply Wd.ext_
    show andI (clzI x.v) (kW 30).v = (kW 14).v
    by_cases c : x.v < 131072
    · rw [clz_of 16 65536 (by decide) (by decide) l (by omega)]; decide +kernel
    · rw [clz_of 17 131072 (by decide) (by decide) (by omega) (by omega)]; decide +kernel
  refine ⟨u_of 14 ht (by decide +kernel) (by decide) (by omega) (by omega), ?_⟩
  show shrI (rootT x).v (kW 1).v = _
  rw [ht]
  decide +kernel
theorem root_8 {x : Wd} (l : 16384 ≤ x.v) (r : x.v < 65536) : (rootU x).v = x.v * 16384 ∧ (rootW x).2.v = 8 := by
  have ht : rootT x = kW 16 := by
    apply Wd.ext_
    show andI (clzI x.v) (kW 30).v = (kW 16).v
    by_cases c : x.v < 32768
    · rw [clz_of 14 16384 (by decide) (by decide) l (by omega)]; decide +kernel
    · rw [clz_of 15 32768 (by decide) (by decide) (by omega) (by omega)]; decide +kernel
  refine ⟨u_of 16 ht (by decide +kernel) (by decide) (by omega) (by omega), ?_⟩
  show shrI (rootT x).v (kW 1).v = _
  rw [ht]
  decide +kernel
theorem root_9 {x : Wd} (l : 4096 ≤ x.v) (r : x.v < 16384) : (rootU x).v = x.v * 65536 ∧ (rootW x).2.v = 9 := by
  have ht : rootT x = kW 18 := by
    apply Wd.ext_
    show andI (clzI x.v) (kW 30).v = (kW 18).v
    by_cases c : x.v < 8192
    · rw [clz_of 12 4096 (by decide) (by decide) l (by omega)]; decide +kernel
    · rw [clz_of 13 8192 (by decide) (by decide) (by omega) (by omega)]; decide +kernel
  refine ⟨u_of 18 ht (by decide +kernel) (by decide) (by omega) (by omega), ?_⟩
  show shrI (rootT x).v (kW 1).v = _
  rw [ht]
  decide +kernel
theorem root_10 {x : Wd} (l : 1024 ≤ x.v) (r : x.v < 4096) : (rootU x).v = x.v * 262144 ∧ (rootW x).2.v = 10 := by
  have ht : rootT x = kW 20 := by
    apply Wd.ext_
    show andI (clzI x.v) (kW 30).v = (kW 20).v
    by_cases c : x.v < 2048
    · rw [clz_of 10 1024 (by decide) (by decide) l (by omega)]; decide +kernel
    · rw [clz_of 11 2048 (by decide) (by decide) (by omega) (by omega)]; decide +kernel
  refine ⟨u_of 20 ht (by decide +kernel) (by decide) (by omega) (by omega), ?_⟩
  show shrI (rootT x).v (kW 1).v = _
  rw [ht]
  decide +kernel
theorem root_11 {x : Wd} (l : 256 ≤ x.v) (r : x.v < 1024) : (rootU x).v = x.v * 1048576 ∧ (rootW x).2.v = 11 := by
  have ht : rootT x = kW 22 := by
    apply Wd.ext_
    show andI (clzI x.v) (kW 30).v = (kW 22).v
    by_cases c : x.v < 512
    · rw [clz_of 8 256 (by decide) (by decide) l (by omega)]; decide +kernel
    · rw [clz_of 9 512 (by decide) (by decide) (by omega) (by omega)]; decide +kernel
  refine ⟨u_of 22 ht (by decide +kernel) (by decide) (by omega) (by omega), ?_⟩
  show shrI (rootT x).v (kW 1).v = _
  rw [ht]
  decide +kernel
theorem root_12 {x : Wd} (l : 64 ≤ x.v) (r : x.v < 256) : (rootU x).v = x.v * 4194304 ∧ (rootW x).2.v = 12 := by
  have ht : rootT x = kW 24 := by
    apply Wd.ext_
    show andI (clzI x.v) (kW 30).v = (kW 24).v
    by_cases c : x.v < 128
    · rw [clz_of 6 64 (by decide) (by decide) l (by omega)]; decide +kernel
    · rw [clz_of 7 128 (by decide) (by decide) (by omega) (by omega)]; decide +kernel
  refine ⟨u_of 24 ht (by decide +kernel) (by decide) (by omega) (by omega), ?_⟩
  show shrI (rootT x).v (kW 1).v = _
  rw [ht]
  decide +kernel
theorem root_13 {x : Wd} (l : 16 ≤ x.v) (r : x.v < 64) : (rootU x).v = x.v * 16777216 ∧ (rootW x).2.v = 13 := by
  have ht : rootT x = kW 26 := by
    apply Wd.ext_
    show andI (clzI x.v) (kW 30).v = (kW 26).v
    by_cases c : x.v < 32
    · rw [clz_of 4 16 (by decide) (by decide) l (by omega)]; decide +kernel
    · rw [clz_of 5 32 (by decide) (by decide) (by omega) (by omega)]; decide +kernel
  refine ⟨u_of 26 ht (by decide +kernel) (by decide) (by omega) (by omega), ?_⟩
  show shrI (rootT x).v (kW 1).v = _
  rw [ht]
  decide +kernel
theorem root_14 {x : Wd} (l : 4 ≤ x.v) (r : x.v < 16) : (rootU x).v = x.v * 67108864 ∧ (rootW x).2.v = 14 := by
  have ht : rootT x = kW 28 := by
    apply Wd.ext_
    show andI (clzI x.v) (kW 30).v = (kW 28).v
    by_cases c : x.v < 8
    · rw [clz_of 2 4 (by decide) (by decide) l (by omega)]; decide +kernel
    · rw [clz_of 3 8 (by decide) (by decide) (by omega) (by omega)]; decide +kernel
  refine ⟨u_of 28 ht (by decide +kernel) (by decide) (by omega) (by omega), ?_⟩
  show shrI (rootT x).v (kW 1).v = _
  rw [ht]
  decide +kernel
theorem root_15 {x : Wd} (l : 1 ≤ x.v) (r : x.v < 4) : (rootU x).v = x.v * 268435456 ∧ (rootW x).2.v = 15 := by
  have ht : rootT x = kW 30 := by
    apply Wd.ext_
    show andI (clzI x.v) (kW 30).v = (kW 30).v
    by_cases c : x.v < 2
    · rw [clz_of 0 1 (by decide) (by decide) l (by omega)]; decide +kernel
    · rw [clz_of 1 2 (by decide) (by decide) (by omega) (by omega)]; decide +kernel
  refine ⟨u_of 30 ht (by decide +kernel) (by decide) (by omega) (by omega), ?_⟩
  show shrI (rootT x).v (kW 1).v = _
  rw [ht]
  decide +kernel
/-- Of a word below 2^30: the power H of 2 to come, and 4^H n z z near 2^90. -/
theorem root_word {x : Wd} (h0 : 1000000 ≤ x.v) (h1 : x.v ≤ 400000000) :
    ∃ (h : Nat) (H : Int), (rootW x).2 = kW h ∧ h ≤ 6 ∧ H = 2 ^ h ∧ H ≤ 64 ∧ 0 < H ∧ 268435456 ≤ x.v * (H * H) / 4 ∧ 4 * (x.v * (H * H) / 4) = x.v * (H * H) ∧ (rootU x).v = x.v * (H * H) / 4 ∧ (rootU x).v < 1073741824 := by
  by_cases c1 : 268435456 ≤ x.v
  · obtain ⟨a, b⟩ := root_1 c1 (by omega)
    exact ⟨1, 2, Wd.ext_ (b.trans (by decide +kernel)), by decide, by decide, by decide, by decide, by omega, by omega, by omega, by omega⟩
  by_cases c2 : 67108864 ≤ x.v
  · obtain ⟨a, b⟩ := root_2 c2 (by omega)
    exact ⟨2, 4, Wd.ext_ (b.trans (by decide +kernel)), by decide, by decide, by decide, by decide, by omega, by omega, by omega, by omega⟩
  by_cases c3 : 16777216 ≤ x.v
  · obtain ⟨a, b⟩ := root_3 c3 (by omega)
    exact ⟨3, 8, Wd.ext_ (b.trans (by decide +kernel)), by decide, by decide, by decide, by decide, by omega, by omega, by omega, by omega⟩
  by_cases c4 : 4194304 ≤ x.v
  · obtain ⟨a, b⟩ := root_4 c4 (by omega)
    exact ⟨4, 16, Wd.ext_ (b.trans (by decide +kernel)), by decide, by decide, by decide, by decide, by omega, by omega, by omega, by omega⟩
  by_cases c5 : 1048576 ≤ x.v
  · obtain ⟨a, b⟩ := root_5 c5 (by omega)
    exact ⟨5, 32, Wd.ext_ (b.trans (by decide +kernel)), by decide, by decide, by decide, by decide, by omega, by omega, by omega, by omega⟩
  obtain ⟨a, b⟩ := root_6 (x := x) (by omega) (by omega)
  exact ⟨6, 64, Wd.ext_ (b.trans (by decide +kernel)), by decide, by decide, by decide, by decide, by omega, by omega, by omega, by omega⟩
end Go.Proofs.YtbmfcedndbgpoaaGreat
