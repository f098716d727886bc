/- The plain words of layer 1, where Signed is not reached: Mod, Plain. And layer 6's In. -/
import Derived.Test.YtjfnpokebaagmaaGreatDoorMem
namespace Go.Proofs.YtjfnpokebaagmaaGreatDoor
open Go.RowKit Go.Deep
set_option linter.unusedVariables false
theorem emod_of_tmod {x n : Int} (hn : 0 < n) : x % n = if x.tmod n < 0 then x.tmod n + n else x.tmod n := by
  rw [Int.tmod_eq_emod]
  have h1 := Int.emod_nonneg x (by omega : n ≠ 0)
  have h2 := Int.emod_lt_of_pos x hn
  split <;> split <;> omega
set_option maxRecDepth 100000 in
set_option maxHeartbeats 1000000 in
theorem mod_calls (x n : Int) (w : World) (hx : -9223372036854775808 ≤ x ∧ x ≤ 9223372036854775807) (hn : 0 < n ∧ n ≤ 9223372036854775807) :
    Calls Tryz.prog 65 #[.int .i64 x, .int .i64 n] w fun e w' => e = .returned (.int .i64 (x % n)) ∧ w = w' := by
  have hm := @emod_of_tmod x n hn.1
  have h1 := Int.emod_nonneg x (by omega : n ≠ 0)
  have h2 := Int.emod_lt_of_pos x hn.1
  by_cases h0 : x.tmod n < 0
  · rw [if_pos h0] at hm
    go_enter Tryz.func65, Tryz.ntmps65
    go_wp2_with fail
    go_ret
    exact ⟨by first | rfl | (rw [hm]; rfl), rfl⟩
  · rw [if_neg h0] at hm
    go_enter Tryz.func65, Tryz.ntmps65
    go_wp2_with fail
    go_ret
    exact ⟨by first | rfl | (rw [hm]; rfl), rfl⟩
set_option maxRecDepth 100000 in
set_option maxHeartbeats 1000000 in
theorem plain_calls (x : Int) (w : World) (hx : -2147483648 ≤ x ∧ x ≤ 2147483647) :
    Calls Tryz.prog 51 #[.int .i32 x] w fun e w' => e = .returned (.int .i64 (x % 4294967296)) ∧ w = w' := by
  go_enter Tryz.func51, Tryz.ntmps51
  go_wp2_with fail
  refine (mod_calls x 4294967296 _ (by omega) (by omega)).mono ?_
  rintro e w' ⟨rfl, rfl⟩
  go_wp2
  go_ret
  exact ⟨rfl, rfl⟩
def i64s (l : List Int) : List Value := l.map (Value.int .i64)
theorem i64s_at (l : List Int) (k : Nat) (h : k < l.length) : (i64s l)[k]? = some (.int .i64 (l.getD k 0)) := by simp [i64s, h]

theorem not_in_take {n : Int} {l : List Int} {k : Nat} (h : n ∉ l.take k) (hk : k < l.length) (hne : ¬ l.getD k 0 = n) : n ∉ l.take (k + 1) := by
  rw [List.take_add_one, List.getElem?_eq_getElem hk]
  simp only [List.mem_append, not_or]
  refine ⟨h, ?_⟩
  simp [List.getD_eq_getElem?_getD, List.getElem?_eq_getElem hk] at hne
  simp; exact fun e => hne e.symm
theorem in_of_at {n : Int} {l : List Int} {k : Nat} (hk : k < l.length) (h : l.getD k 0 = n) : n ∈ l := by
  simp [List.getD_eq_getElem?_getD, List.getElem?_eq_getElem hk] at h
  exact h ▸ List.getElem_mem hk

set_option maxHeartbeats 400000 in
theorem in_any (A : Option Addr) (c : Nat) (n : Int) (l : List Int) (w : World) (hs : Sl w (.slice A l.length c) (i64s l)) (hn : l.length ≤ 3000) :
    Calls Tryz.prog 49 #[.int .i64 n, .slice A l.length c] w fun e w' => e = .returned (.bool (decide (n ∈ l))) ∧ w = w' := by
  have HS := hide hs
  clear hs
  go_enter Tryz.func49, Tryz.ntmps49
  go_wp2
  go_loopw [5] (fun i wr => ∃ k : Nat, k ≤ l.length ∧ i = .int .i64 k ∧ Hid (n ∉ l.take k) ∧ wr = w) (fun i _ => l.length - (intOf i).toNat)
  case atStart => exact ⟨0, Nat.zero_le _, rfl, hide (by simp), rfl⟩
  case round =>
    obtain ⟨k, hk, rfl, HT, rfl⟩ := hrel
    by_cases hlt : k < l.length
    · obtain ⟨b, off, rfl, hca, _⟩ := HS.out.at_ (i64s_at l k hlt)
      by_cases he : l.getD k 0 = n
      · have HE := hide (in_of_at hlt he)
        rw [he] at hca
        have hx : (n == n) = true := by simp
        clear he
        go_wp2
        go_ret
        exact ⟨by rw [decide_eq_true HE.out]; rfl, rfl⟩
      · have HE := hide (not_in_take HT.out hlt he)
        have hx : (l.getD k 0 == n) = false := by simpa using he
        clear he
        generalize l.getD k 0 = x at *
        go_wp2
        go_roundw
        case rel => exact ⟨k + 1, by omega, by go_num, HE, by trivial⟩
        case measure => simp [intOf]; omega
    · have hk : k = l.length := by omega
      subst hk
      go_wp2
      go_ret
      exact ⟨by rw [decide_eq_false (by simpa using HT.out)]; rfl, rfl⟩
end Go.Proofs.YtjfnpokebaagmaaGreatDoor
