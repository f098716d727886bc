/- The small packages of numbers: shift, sat, pick, word, fix. -/
import Derived.Test.YtkfkoobdmnndcaaGreatMem
namespace Go.Proofs.YtkfkoobdmnndcaaGreat
open Go.RowKit Go.Deep
set_option linter.unusedVariables false

/-- A shift's count. -/
def sh (b : Int) : Nat := min (IntKind.u64.wrap (bits BinOp.and IntKind.i32 b 31)).toNat 32
def sarI (a b : Int) : Int := a / 2 ^ sh b
def shlI (a b : Int) : Int := wrap32 (a % 4294967296 * 2 ^ sh b % 4294967296)
def shrI (a b : Int) : Int := wrap32 (a % 4294967296 / 2 ^ sh b)
def ltI (a b : Int) : Int := if a < b then 1 else 0
def ltuI (a b : Int) : Int := if a % 4294967296 < b % 4294967296 then 1 else 0
def eqI (a b : Int) : Int := if a = b then 1 else 0
def satI (x : Int) : Int := min (max x (-2147483648)) 2147483647
def addsI (a b : Int) : Int := satI (a + b)
def subsI (a b : Int) : Int := satI (a - b)
def negI (a : Int) : Int := satI (-a)
def absI (a : Int) : Int := max a (negI a)
def signI (a : Int) : Int := a / 2147483648

set_option maxHeartbeats 400000 in
theorem sar_calls (a b : Int) (w : World) : Calls Tryz.prog 151 #[.int .i32 a, .int .i32 b] w fun e w' => e = .returned (.int .i32 (sarI a b)) ∧ Chg w w' [] := by
  have HC := hide (Chg.refl w [])
  go_enter Tryz.func151, Tryz.ntmps151
  go_wp2
  go_ret
  exact ⟨rfl, HC.out⟩
set_option maxHeartbeats 400000 in
theorem shl_calls (a b : Int) (w : World) : Calls Tryz.prog 149 #[.int .i32 a, .int .i32 b] w fun e w' => e = .returned (.int .i32 (shlI a b)) ∧ Chg w w' [] := by
  go_enter Tryz.func149, Tryz.ntmps149
  go_wp2
  go_ret
  exact ⟨rfl, (Chg.refl w []).alloc _⟩
set_option maxHeartbeats 400000 in
theorem shr_calls (a b : Int) (w : World) : Calls Tryz.prog 150 #[.int .i32 a, .int .i32 b] w fun e w' => e = .returned (.int .i32 (shrI a b)) ∧ Chg w w' [] := by
  go_enter Tryz.func150, Tryz.ntmps150
  go_wp2
  go_ret
  exact ⟨rfl, (Chg.refl w []).alloc _⟩
set_option maxHeartbeats 400000 in
theorem less_calls (a b : Int) (w : World) : Calls Tryz.prog 153 #[.int .i32 a, .int .i32 b] w fun e w' => e = .returned (.int .i32 (ltI a b)) ∧ w = w' := by
  by_cases h : a < b
  · have e : ltI a b = 1 := by unfold ltI; rw [if_pos h]
    rw [e]
    go_enter Tryz.func153, Tryz.ntmps153
    go_wp2
    go_ret
    exact ⟨rfl, rfl⟩
  · have e : ltI a b = 0 := by unfold ltI; rw [if_neg h]
    rw [e]
    go_enter Tryz.func153, Tryz.ntmps153
    go_wp2
    go_ret
    exact ⟨rfl, rfl⟩

set_option maxHeartbeats 400000 in
theorem under_calls (a b : Int) (w : World) : Calls Tryz.prog 154 #[.int .i32 a, .int .i32 b] w fun e w' => e = .returned (.int .i32 (ltuI a b)) ∧ w = w' := by
  by_cases h : a % 4294967296 < b % 4294967296
  · have e : ltuI a b = 1 := by unfold ltuI; rw [if_pos h]
    rw [e]
    go_enter Tryz.func154, Tryz.ntmps154
    go_wp2
    go_ret
    exact ⟨rfl, rfl⟩
  · have e : ltuI a b = 0 := by unfold ltuI; rw [if_neg h]
    rw [e]
    go_enter Tryz.func154, Tryz.ntmps154
    go_wp2
    go_ret
    exact ⟨rfl, rfl⟩
set_option maxHeartbeats 400000 in
theorem same_calls (a b : Int) (w : World) : Calls Tryz.prog 155 #[.int .i32 a, .int .i32 b] w fun e w' => e = .returned (.int .i32 (eqI a b)) ∧ w = w' := by
  by_cases h : a = b
  · have e : eqI a b = 1 := by unfold eqI; rw [if_pos h]
    rw [e]
    subst h
    go_enter Tryz.func155, Tryz.ntmps155
    go_wp2
    go_ret
    exact ⟨rfl, rfl⟩
  · have e : eqI a b = 0 := by unfold eqI; rw [if_neg h]
    rw [e]
    have hb : (a == b) = false := by simpa using h
    go_enter Tryz.func155, Tryz.ntmps155
    go_wp2
    go_ret
    exact ⟨rfl, rfl⟩

set_option maxHeartbeats 400000 in
theorem sign_calls (a : Int) (w : World) : Calls Tryz.prog 192 #[.int .i32 a] w fun e w' => e = .returned (.int .i32 (signI a)) ∧ w = w' := by
  go_enter Tryz.func192, Tryz.ntmps192
  go_wp2
  go_ret
  exact ⟨rfl, rfl⟩

set_option maxHeartbeats 400000 in
theorem sat_calls (x : Int) (w : World) : Calls Tryz.prog 171 #[.int .i64 x] w fun e w' => e = .returned (.int .i32 (satI x)) ∧ w = w' := by
  go_enter Tryz.func171, Tryz.ntmps171
  go_wp2
  · go_ret
    exact ⟨by rw [show satI x = 2147483647 by unfold satI; split at h <;> omega]; rfl, rfl⟩
  · go_ret
    exact ⟨by rw [show satI x = -2147483648 by unfold satI; omega]; rfl, rfl⟩
  · rename_i h1
    rw [if_neg (by omega)] at h1
    go_ret
    exact ⟨by rw [show satI x = x by unfold satI; omega]; rfl, rfl⟩

def sum64 (l : List Int) : Int := l.foldl (fun s x => wrap64 (s + x)) 0
theorem sum64_take {l : List Int} {k : Nat} (h : k < l.length) : sum64 (l.take (k + 1)) = wrap64 (sum64 (l.take k) + l.getD k 0) := by
  rw [List.take_add_one, List.getElem?_eq_getElem h]
  unfold sum64
  rw [List.foldl_append, List.getD_eq_getElem?_getD, List.getElem?_eq_getElem h]
  rfl
theorem of64_at (l : List Int) (k : Nat) (h : k < l.length) : (l.map (Value.int .i64))[k]? = some (.int .i64 (l.getD k 0)) := by simp [h]
set_option maxHeartbeats 400000 in
theorem sum_calls (A : Option Addr) (c : Nat) (l : List Int) (w : World) (hs : Sl w (.slice A l.length c) (l.map (Value.int .i64))) (hn : l.length ≤ 3000) :
    Calls Tryz.prog 157 #[.slice A l.length c] w fun e w' => e = .returned (.int .i32 (satI (sum64 l))) ∧ w = w' := by
  have HS := hide hs
  clear hs
  go_enter Tryz.func157, Tryz.ntmps157
  go_wp2
  go_loopw [3, 8] (fun n i wr => ∃ k : Nat, k ≤ l.length ∧ i = .int .i64 k ∧ n = .int .i64 (sum64 (l.take k)) ∧ wr = w) (fun _ i _ => l.length - (intOf i).toNat)
  case atStart => exact ⟨0, Nat.zero_le _, rfl, rfl, rfl⟩
  case round =>
    obtain ⟨k, hk, rfl, rfl, rfl⟩ := hrel
    by_cases hlt : k < l.length
    · obtain ⟨b, off, rfl, hca, _⟩ := HS.out.at_ (of64_at l k hlt)
      have HE := hide (sum64_take hlt)
      generalize l.getD k 0 = x at *
      generalize sum64 (l.take k) = n at *
      go_wp2
      go_roundw
      case rel => exact ⟨k + 1, by omega, by go_num, by rw [HE.out], by trivial⟩
      case measure => simp [intOf]; omega
    · have hk : k = l.length := by omega
      subst hk
      rw [List.take_length]
      go_wp2_with fail
      refine (sat_calls _ _).mono ?_
      rintro e w1 ⟨rfl, rfl⟩
      go_wp2
      go_ret
      exact ⟨rfl, rfl⟩

theorem in32 {a : Int} (h : -2147483648 ≤ a ∧ a ≤ 2147483647) : wrap64 a = a := by unfold wrap64; omega

set_option maxHeartbeats 400000 in
theorem sadd_calls (a b : Int) (w : World) (ha : -2147483648 ≤ a ∧ a ≤ 2147483647) (hb : -2147483648 ≤ b ∧ b ≤ 2147483647) :
    Calls Tryz.prog 147 #[.int .i32 a, .int .i32 b] w fun e w' => e = .returned (.int .i32 (addsI a b)) ∧ Chg w w' [] := by
  have e : addsI a b = satI (sum64 [a, b]) := by unfold addsI sum64; simp; rw [in32 ha, show wrap64 (a + b) = a + b by unfold wrap64; omega]
  rw [e]
  go_enter Tryz.func147, Tryz.ntmps147
  go_wp2_with fail
  have hs : Sl (w.alloc (.cells #[.int .i64 a, .int .i64 b] 2)) (.slice (some ⟨w.heap.size, 0, none⟩) 2 2) ([a, b].map (Value.int .i64)) := Sl.blk' (Blk.new w _ _) rfl (Nat.le_refl _)
  refine (sum_calls _ _ [a, b] _ hs (by simp)).mono ?_
  rintro e w1 ⟨rfl, rfl⟩
  clear hs
  go_wp2
  go_ret
  exact ⟨rfl, (Chg.refl w []).alloc _⟩
set_option maxHeartbeats 400000 in
theorem ssub_calls (a b : Int) (w : World) (ha : -2147483648 ≤ a ∧ a ≤ 2147483647) (hb : -2147483648 ≤ b ∧ b ≤ 2147483647) :
    Calls Tryz.prog 148 #[.int .i32 a, .int .i32 b] w fun e w' => e = .returned (.int .i32 (subsI a b)) ∧ Chg w w' [] := by
  have e : subsI a b = satI (sum64 [a, -b]) := by unfold subsI sum64; simp; rw [in32 ha, show wrap64 (a + -b) = a - b by unfold wrap64; omega]
  have hn : wrap64 (-b) = -b := by unfold wrap64; omega
  rw [e]
  go_enter Tryz.func148, Tryz.ntmps148
  go_wp2_with fail
  have hs : Sl (w.alloc (.cells #[.int .i64 a, .int .i64 (-b)] 2)) (.slice (some ⟨w.heap.size, 0, none⟩) 2 2) ([a, -b].map (Value.int .i64)) := Sl.blk' (Blk.new w _ _) rfl (Nat.le_refl _)
  refine (sum_calls _ _ [a, -b] _ hs (by simp)).mono ?_
  rintro e w1 ⟨rfl, rfl⟩
  clear hs
  go_wp2
  go_ret
  exact ⟨rfl, (Chg.refl w []).alloc _⟩
set_option maxHeartbeats 400000 in
theorem sneg_calls (a : Int) (w : World) (ha : -2147483648 ≤ a ∧ a ≤ 2147483647) :
    Calls Tryz.prog 189 #[.int .i32 a] w fun e w' => e = .returned (.int .i32 (negI a)) ∧ Chg w w' [] := by
  have e : negI a = satI (sum64 [-a]) := by unfold negI sum64; simp; rw [show wrap64 (-a) = -a by unfold wrap64; omega]
  have hn : wrap64 (-a) = -a := by unfold wrap64; omega
  rw [e]
  go_enter Tryz.func189, Tryz.ntmps189
  go_wp2_with fail
  have hs : Sl (w.alloc (.cells #[.int .i64 (-a)] 2)) (.slice (some ⟨w.heap.size, 0, none⟩) 1 1) ([-a].map (Value.int .i64)) := Sl.blk' (Blk.new w _ _) rfl (Nat.le_refl _)
  refine (sum_calls _ _ [-a] _ hs (by simp)).mono ?_
  rintro e w1 ⟨rfl, rfl⟩
  clear hs
  go_wp2
  go_ret
  exact ⟨rfl, (Chg.refl w []).alloc _⟩

end Go.Proofs.YtkfkoobdmnndcaaGreat
