/- The reference's signs, picks, counts: Sign, Min, Max, Clamp, Flip, Clz. -/
import Derived.Test.YtkfkoobdmnndcaaGreatRunD
import Derived.Lib.ItoaNum
namespace Go.Proofs.YtkfkoobdmnndcaaGreat.Xi
open Go Go.RowKit
set_option linter.unusedVariables false
set_option maxRecDepth 100000 in
theorem sign_run0 (a : Wd) : runP (cxR [] [] [(1, true)]) (tabOf []) 100 116 [.opq 0] [.int .i32 a.v] = some (.int .i32 (-1), [oLss 21 .i32 a.v 0 true]) := by kernel_rfl
set_option maxRecDepth 100000 in
theorem sign_run1 (a : Wd) : runP (cxR [] [] [(1, false)]) (tabOf []) 100 116 [.opq 0] [.int .i32 a.v] = some (.int .i32 0, [oLss 21 .i32 a.v 0 false]) := by kernel_rfl
theorem refSign (a : Wd) (w : World) : Calls Tryz.prog 116 #[.int .i32 a.v] w fun e w' => e = .returned (.int .i32 (signW a).v) ∧ Chg w w' [] := by
  have ha := a.ok
  unfold In32 at ha
  have hv : (signW a).v = a.v / 2147483648 := rfl
  rw [hv]
  by_cases h0 : a.v < 0
  · rw [show a.v / 2147483648 = -1 by omega]
    exact cxR_calls _ (sign_run0 a) (ins1 a) (obs1 (oLss_ok (by simpa using h0))) w
  · rw [show a.v / 2147483648 = 0 by omega]
    exact cxR_calls _ (sign_run1 a) (ins1 a) (obs1 (oLss_ok (by simpa using h0))) w
noncomputable def signE : Ent := ent1 116 (fun a => .int .i32 (signW a).v) (fun _ => goodC_w _) refSign
set_option maxRecDepth 100000 in
theorem min_run0 (a b : Wd) : runP (cxR [] [] [(2, true)]) (tabOf []) 100 81 [.opq 0, .opq 1] [.int .i32 a.v, .int .i32 b.v] = some (.int .i32 a.v, [oLss 21 .i32 a.v b.v true]) := by kernel_rfl
set_option maxRecDepth 100000 in
theorem min_run1 (a b : Wd) : runP (cxR [] [] [(2, false)]) (tabOf []) 100 81 [.opq 0, .opq 1] [.int .i32 a.v, .int .i32 b.v] = some (.int .i32 b.v, [oLss 21 .i32 a.v b.v false]) := by kernel_rfl
theorem refMin (a b : Wd) (w : World) : Calls Tryz.prog 81 #[.int .i32 a.v, .int .i32 b.v] w fun e w' => e = .returned (.int .i32 (minW a b).v) ∧ Chg w w' [] := by
  have hv : (minW a b).v = minI a.v b.v := rfl
  by_cases h0 : a.v < b.v
  · rw [hv, show minI a.v b.v = a.v by unfold minI; first | omega | (split <;> omega)]
    exact cxR_calls _ (min_run0 a b) (good_2 a b) (obs1 (oLss_ok (by simpa using h0))) w
  · rw [hv, show minI a.v b.v = b.v by unfold minI; first | omega | (split <;> omega)]
    exact cxR_calls _ (min_run1 a b) (good_2 a b) (obs1 (oLss_ok (by simpa using h0))) w
noncomputable def minE : Ent := ent2 81 (fun a b => .int .i32 (minW a b).v) (fun _ _ => goodC_w _) refMin
set_option maxRecDepth 100000 in
theorem max_run0 (a b : Wd) : runP (cxR [] [] [(2, true)]) (tabOf []) 100 80 [.opq 0, .opq 1] [.int .i32 a.v, .int .i32 b.v] = some (.int .i32 b.v, [oLss 21 .i32 a.v b.v true]) := by kernel_rfl
set_option maxRecDepth 100000 in
theorem max_run1 (a b : Wd) : runP (cxR [] [] [(2, false)]) (tabOf []) 100 80 [.opq 0, .opq 1] [.int .i32 a.v, .int .i32 b.v] = some (.int .i32 a.v, [oLss 21 .i32 a.v b.v false]) := by kernel_rfl
theorem refMax (a b : Wd) (w : World) : Calls Tryz.prog 80 #[.int .i32 a.v, .int .i32 b.v] w fun e w' => e = .returned (.int .i32 (maxW a b).v) ∧ Chg w w' [] := by
  have hv : (maxW a b).v = maxI a.v b.v := rfl
  by_cases h0 : a.v < b.v
  · rw [hv, show maxI a.v b.v = b.v by unfold maxI; first | omega | (split <;> omega)]
    exact cxR_calls _ (max_run0 a b) (good_2 a b) (obs1 (oLss_ok (by simpa using h0))) w
  · rw [hv, show maxI a.v b.v = a.v by unfold maxI; first | omega | (split <;> omega)]
    exact cxR_calls _ (max_run1 a b) (good_2 a b) (obs1 (oLss_ok (by simpa using h0))) w
noncomputable def maxE : Ent := ent2 80 (fun a b => .int .i32 (maxW a b).v) (fun _ _ => goodC_w _) refMax
def flipL : List Int → List Int → List Int
  | b :: l, c :: m => IntKind.i64.wrap ((IntKind.i64.wrap (b + c)).tmod 2) :: flipL l m
  | _, _ => []
set_option maxRecDepth 100000 in
theorem flip_run (a m : Wd) : runP (cxR [] [(67, .agg 32), (69, .one), (28, .one)] []) (tabOf [bitsE, ofE, lowE]) 400 117 [.opq 0, .opq 1] [.int .i32 a.v, .int .i32 m.v] =
    some (.int .i32 (kW (IntKind.i64.wrap (IntKind.i64.wrap (kW (ofI (flipL (bitI ((kW a.v).v % 4294967296) 0 32) (bitI ((kW m.v).v % 4294967296) 0 32)).reverse 0)).v - IntKind.i64.wrap m.v))).v, []) := by kernel_rfl
theorem flipL_eq (Y Z : Nat) : ∀ n i, flipL (bitI Y i n) (bitI Z i n) = bitI ((Y ^^^ Z : Nat) : Int) i n
  | 0, i => rfl
  | n + 1, i => by
    simp only [bitI, flipL]
    rw [flipL_eq Y Z n (i + 1)]
    congr 1
    have h := Nat.testBit_xor Y Z i
    have c : ∀ X : Nat, ((X : Int) / 2 ^ i % 2) = ((X / 2 ^ i % 2 : Nat) : Int) := fun X => by simp
    have t : ∀ X : Nat, X.testBit i = decide (X / 2 ^ i % 2 = 1) := fun X => Nat.testBit_eq_decide_div_mod_eq
    rw [t, t, t] at h
    rw [c, c, c]
    have hy : Y / 2 ^ i % 2 = 0 ∨ Y / 2 ^ i % 2 = 1 := by omega
    have hz : Z / 2 ^ i % 2 = 0 ∨ Z / 2 ^ i % 2 = 1 := by omega
    have hr : (Y ^^^ Z) / 2 ^ i % 2 = 0 ∨ (Y ^^^ Z) / 2 ^ i % 2 = 1 := by omega
    generalize (Y ^^^ Z) / 2 ^ i % 2 = r at *
    generalize Y / 2 ^ i % 2 = y at *
    generalize Z / 2 ^ i % 2 = z at *
    rcases hy with rfl | rfl <;> rcases hz with rfl | rfl <;> rcases hr with rfl | rfl <;> first | (exfalso; revert h; decide) | decide +kernel
theorem xor_num (a m : Wd) : ∃ Y Z : Nat, a.v % 4294967296 = Y ∧ m.v % 4294967296 = Z ∧ (xorW a m).v = (kW ((Y ^^^ Z : Nat) : Int)).v ∧ Y ^^^ Z < 4294967296 := by
  refine ⟨(BitVec.ofInt 32 a.v).toNat, (BitVec.ofInt 32 m.v).toNat, ?_, ?_, ?_, ?_⟩
  · rw [BitVec.toNat_ofInt]; omega
  · rw [BitVec.toNat_ofInt]; omega
  · show IntKind.i32.wrap ((BitVec.ofInt 32 a.v ^^^ BitVec.ofInt 32 m.v).toNat : Int) = wrap32 _
    rw [BitVec.toNat_xor, IntKind.wrap_i32]; unfold wrap32; rfl
  · rw [← BitVec.toNat_xor]
    exact (BitVec.ofInt 32 a.v ^^^ BitVec.ofInt 32 m.v).isLt
theorem refFlip (a m : Wd) (w : World) : Calls Tryz.prog 117 #[.int .i32 a.v, .int .i32 m.v] w fun e w' => e = .returned (.int .i32 (flipW a m).v) ∧ Chg w w' [] := by
  have h := cxR_calls _ (flip_run a m) (good_2 a m) obs0 w
  obtain ⟨Y, Z, hY, hZ, hx, hlt⟩ := xor_num a m
  rw [kW_self, kW_self, hY, hZ, flipL_eq, ofI_num (b01_bits _ _ _) (by simp [bitI_length]), numI_bits] at h
  have e : (((Y ^^^ Z : Nat) : Int) / 2 ^ 0 % 2 ^ 32) = ((Y ^^^ Z : Nat) : Int) := by
    rw [show (2 : Int) ^ 0 = 1 from rfl, Int.ediv_one]
    omega
  have hm := m.ok
  have hq := (xorW a m).ok
  unfold In32 at hm hq
  rw [e, ← hx, w64, w64] at h
  have e2 : (kW (IntKind.i64.wrap ((xorW a m).v - m.v))).v = (flipW a m).v := by
    show wrap32 (IntKind.i64.wrap ((xorW a m).v - m.v)) = wrap32 ((xorW a m).v - m.v)
    rw [IntKind.wrap_i64]
    congr 1
    omega
  rw [e2] at h
  exact h
noncomputable def flipE : Ent := ent2 117 (fun a b => .int .i32 (flipW a b).v) (fun _ _ => goodC_w _) refFlip
/-- The tests of Clz, the last one first. -/
def clzO (y : Int) : Nat → List Ob
  | 0 => []
  | j + 1 => oEql 2 .i64 (y / 2 ^ (31 - j) % 2) 0 true :: clzO y j
def clzB (c : Nat) : List (Nat × Bool) := (List.range c).map (fun j => (33 + j, true)) ++ [(33 + c, false)]
def clzOb (y : Int) (c : Nat) : List Ob := bif Nat.blt c 32 then oEql 2 .i64 (y / 2 ^ (31 - c) % 2) 0 false :: clzO y c else clzO y 32
set_option maxRecDepth 100000 in
theorem clz_run (a : Wd) : ∀ c : Nat, c < 33 → runP (cxR [] [(67, .agg 32)] (clzB c)) (tabOf [bitsE]) 400 82 [.opq 0] [.int .i32 a.v] = some (.int .i32 (Int.ofNat c), clzOb ((kW a.v).v % 4294967296) c)
  | 0, _ => by kernel_rfl
  | 1, _ => by kernel_rfl
  | 2, _ => by kernel_rfl
  | 3, _ => by kernel_rfl
  | 4, _ => by kernel_rfl
  | 5, _ => by kernel_rfl
  | 6, _ => by kernel_rfl
  | 7, _ => by kernel_rfl
  | 8, _ => by kernel_rfl
  | 9, _ => by kernel_rfl
  | 10, _ => by kernel_rfl
  | 11, _ => by kernel_rfl
  | 12, _ => by kernel_rfl
  | 13, _ => by kernel_rfl
  | 14, _ => by kernel_rfl
  | 15, _ => by kernel_rfl
  | 16, _ => by kernel_rfl
  | 17, _ => by kernel_rfl
  | 18, _ => by kernel_rfl
  | 19, _ => by kernel_rfl
  | 20, _ => by kernel_rfl
  | 21, _ => by kernel_rfl
  | 22, _ => by kernel_rfl
  | 23, _ => by kernel_rfl
  | 24, _ => by kernel_rfl
  | 25, _ => by kernel_rfl
  | 26, _ => by kernel_rfl
  | 27, _ => by kernel_rfl
  | 28, _ => by kernel_rfl
  | 29, _ => by kernel_rfl
  | 30, _ => by kernel_rfl
  | 31, _ => by kernel_rfl
  | 32, _ => by kernel_rfl
  | k + 33, h => absurd h (by omega)
theorem clzO_ok (y : Int) (c : Nat) (h0 : 0 ≤ y) (h : y < 2 ^ (32 - c)) : ∀ j, j ≤ c → j ≤ 32 → ∀ ob ∈ clzO y j, ObOk Tryz.prog ob
  | 0, _, _ => obs0
  | j + 1, h1, h2 => obsC (oEql_ok (by
      have hp : (2 : Int) ^ (32 - c) ≤ 2 ^ (31 - j) := by exact_mod_cast Nat.pow_le_pow_right (by omega : 1 ≤ 2) (by omega : 32 - c ≤ 31 - j)
      rw [Int.ediv_eq_zero_of_lt h0 (by omega)]; rfl)) (clzO_ok y c h0 h j (by omega) (by omega))
theorem refClz (a : Wd) (w : World) : Calls Tryz.prog 82 #[.int .i32 a.v] w fun e w' => e = .returned (.int .i32 (clzW a).v) ∧ Chg w w' [] := by
  obtain ⟨Y, hY⟩ : ∃ Y : Nat, a.v % 4294967296 = Y := ⟨(a.v % 4294967296).toNat, by omega⟩
  have hlt : Y < 4294967296 := by omega
  have hv : (clzW a).v = 32 - (Lib.bitLen Y : Int) := by show 32 - (Lib.bitLen (a.v % 4294967296).toNat : Int) = _; rw [hY, Int.toNat_natCast]
  rw [hv]
  by_cases h0 : Y = 0
  · subst h0
    have hb : Lib.bitLen 0 = 0 := Lib.bitLenAux_zero 64
    rw [hb]
    have h := cxR_calls _ (clz_run a 32 (by omega)) (ins1 a) (by
      rw [kW_self, hY]
      exact clzO_ok _ 32 (by omega) (by decide) 32 (by omega) (by omega)) w
    exact h
  · obtain ⟨l1, l2, l3⟩ := Lib.bitLenAux_bounds 64 Y (by omega) h0
    have hL : Lib.bitLenAux 64 Y = Lib.bitLen Y := rfl
    rw [hL] at l1 l2 l3
    have l4 : Lib.bitLen Y ≤ 32 := by
      rcases Nat.lt_or_ge 32 (Lib.bitLen Y) with h | h
      · have : 2 ^ 32 ≤ 2 ^ (Lib.bitLen Y - 1) := Nat.pow_le_pow_right (by omega) (by omega)
        omega
      · exact h
    generalize Lib.bitLen Y = n at *
    have h := cxR_calls _ (clz_run a (32 - n) (by omega)) (ins1 a) (by
      rw [kW_self, hY]
      unfold clzOb
      rw [show Nat.blt (32 - n) 32 = true from blt_iff.2 (by omega)]
      refine obsC (oEql_ok ?_) (clzO_ok _ (32 - n) (by omega) (by rw [show 32 - (32 - n) = n by omega]; exact_mod_cast l3) _ (by omega) (by omega))
      rw [show 31 - (32 - n) = n - 1 by omega]
      have e : (Y : Int) / 2 ^ (n - 1) = 1 := by
        have : Y / 2 ^ (n - 1) = 1 := by
          have hp : 2 ^ n = 2 * 2 ^ (n - 1) := by rw [← Nat.pow_succ']; congr 1; omega
          refine Nat.div_eq_of_lt_le (by omega) (by omega)
        rw [show (Y : Int) / 2 ^ (n - 1) = ((Y / 2 ^ (n - 1) : Nat) : Int) by simp, this]; rfl
      rw [e]; rfl) w
    have e : Int.ofNat (32 - n) = 32 - (n : Int) := by simp; omega
    rw [e] at h
    exact h
noncomputable def clzE : Ent := ent1 82 (fun a => .int .i32 (clzW a).v) (fun _ => goodC_w _) refClz
end Go.Proofs.YtkfkoobdmnndcaaGreat.Xi
