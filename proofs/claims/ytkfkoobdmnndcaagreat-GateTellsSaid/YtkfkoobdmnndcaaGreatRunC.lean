/- The reference's shifts are the program's: Shl, Shr, Sar. -/
import Derived.Test.YtkfkoobdmnndcaaGreatRunB
namespace Go.Proofs.YtkfkoobdmnndcaaGreat.Xi
open Go Go.RowKit
set_option linter.unusedVariables false
def numI : List Int → Int
  | [] => 0
  | b :: l => b + 2 * numI l
def b01 (l : List Int) : Prop := ∀ b ∈ l, b = 0 ∨ b = 1
theorem numI_bd : ∀ {l : List Int}, b01 l → 0 ≤ numI l ∧ numI l < 2 ^ l.length
  | [], _ => by simp [numI]
  | b :: l, h => by
    have hb := h b (by simp)
    obtain ⟨h1, h2⟩ := numI_bd (l := l) (fun x hx => h x (by simp [hx]))
    simp only [numI, List.length_cons, Int.pow_succ]
    rcases hb with rfl | rfl <;> omega
theorem ofI_append : ∀ (x y : List Int) (n : Int), ofI (x ++ y) n = ofI y (ofI x n)
  | [], y, n => rfl
  | b :: x, y, n => by simp only [List.cons_append, ofI]; exact ofI_append x y _
theorem ofI_num : ∀ {l : List Int}, b01 l → l.length ≤ 40 → ofI l.reverse 0 = numI l
  | [], _, _ => rfl
  | b :: l, h, hn => by
    have hb := h b (by simp)
    have hl : b01 l := fun x hx => h x (by simp [hx])
    simp only [List.length_cons] at hn
    obtain ⟨h1, h2⟩ := numI_bd hl
    have h3 : (2 : Int) ^ l.length ≤ 2 ^ 40 := by exact_mod_cast Nat.pow_le_pow_right (by omega : 1 ≤ 2) (by omega : l.length ≤ 40)
    rw [List.reverse_cons, ofI_append, ofI_num hl (by omega)]
    simp only [ofI, numI]
    rw [IntKind.wrap_i64, IntKind.wrap_i64]
    rcases hb with rfl | rfl <;> omega
theorem numI_zeros (k : Nat) (l : List Int) : numI (List.replicate k 0 ++ l) = 2 ^ k * numI l := by
  induction k with
  | zero => simp
  | succ k ih => rw [List.replicate_succ, List.cons_append, numI, ih, Int.pow_succ, Int.mul_comm (2 ^ k) 2, Int.mul_assoc]; omega
theorem numI_behind : ∀ (l : List Int) (k : Nat), numI (l ++ List.replicate k 0) = numI l
  | [], k => by
    induction k with
    | zero => rfl
    | succ k ih => rw [List.replicate_succ]; simp only [List.nil_append, numI] at *; rw [ih]; rfl
  | b :: l, k => by simp only [List.cons_append, numI]; rw [numI_behind l k]
theorem numI_bits (y : Int) : ∀ (n i : Nat), numI (bitI y i n) = y / 2 ^ i % 2 ^ n
  | 0, i => by simp [bitI, numI]
  | n + 1, i => by
    have hp : (0 : Int) < 2 ^ i := Int.pow_pos (by omega)
    have hq : (0 : Int) < 2 ^ n := Int.pow_pos (by omega)
    simp only [bitI, numI]
    rw [numI_bits y n (i + 1), Int.pow_succ, Int.pow_succ, ← Int.ediv_ediv_of_nonneg (by omega)]
    generalize y / 2 ^ i = z
    rw [Int.mul_comm (2 ^ n) 2]
    have e : z = 2 * (z / 2) + z % 2 := by omega
    have e2 := Int.emod_add_mul_ediv (z / 2) (2 ^ n)
    have r0 := Int.emod_nonneg (z / 2) (by omega : (2 : Int) ^ n ≠ 0)
    have r1 := Int.emod_lt_of_pos (z / 2) hq
    have e3 : z = (z % 2 + 2 * (z / 2 % 2 ^ n)) + (2 * 2 ^ n) * (z / 2 / 2 ^ n) := by
      rw [Int.mul_assoc]
      generalize 2 ^ n * (z / 2 / 2 ^ n) = t at *
      omega
    have e4 : z % (2 * 2 ^ n) = (z % 2 + 2 * (z / 2 % 2 ^ n)) % (2 * 2 ^ n) := by
      conv => lhs; rw [e3]
      exact Int.add_mul_emod_self_left _ _ _
    have m0 : 0 ≤ z % 2 := by omega
    have m1 : z % 2 < 2 := by omega
    rw [e4]
    clear e e2 e3 e4
    generalize z / 2 % 2 ^ n = r at *
    generalize (2 : Int) ^ n = p at *
    exact (Int.emod_eq_of_lt (by omega) (by omega)).symm
theorem b01_bits (y : Int) (i n : Nat) : b01 (bitI y i n) := bitI_01 y n i
theorem b01_append {x y : List Int} (h : b01 x) (h' : b01 y) : b01 (x ++ y) := fun b hb => (List.mem_append.1 hb).elim (h b) (h' b)
theorem b01_zeros (k : Nat) : b01 (List.replicate k 0) := fun b hb => .inl (List.eq_of_mem_replicate hb)
theorem ofR_num {l : List Int} (h : b01 l) (hl : l.length ≤ 40) : ofR l = .int .i32 (kW (numI l)).v := by unfold ofR; rw [ofI_num h hl]
theorem and_31 (b : Int) : bits BinOp.and IntKind.i32 b 31 = b % 32 := by
  show IntKind.i32.wrap ((BitVec.ofInt 32 b &&& BitVec.ofInt 32 31).toNat : Int) = _
  have h2 : (BitVec.ofInt 32 31).toNat = 2 ^ 5 - 1 := by decide
  rw [BitVec.toNat_and, h2, Nat.and_two_pow_sub_one_eq_mod, IntKind.wrap_i32, BitVec.toNat_ofInt]
  omega
theorem sh_eq (b : Int) : sh b = (b % 32).toNat := by
  unfold sh
  rw [and_31]
  have : IntKind.u64.wrap (b % 32) = b % 32 := by
    simp only [IntKind.wrap, IntKind.signed, IntKind.bits]
    simp
    omega
  rw [this]
  omega
theorem shl_eq (a n : Wd) (k : Nat) (hk : n.v % 32 = k) (h : k < 32) : ofR (List.replicate k 0 ++ bitI (a.v % 4294967296) 0 (32 - k)) = .int .i32 (shlW a n).v := by
  rw [ofR_num (b01_append (b01_zeros k) (b01_bits _ _ _)) (by simp [bitI_length]; omega), numI_zeros, numI_bits]
  show Value.int .i32 (wrap32 _) = .int .i32 (shlI a.v n.v)
  unfold shlI
  rw [sh_eq, hk, Int.toNat_natCast]
  congr 2
  have e : (4294967296 : Int) = 2 ^ (32 - k) * 2 ^ k := by rw [← Int.pow_add, Nat.sub_add_cancel (by omega)]; decide
  generalize a.v % 4294967296 = y
  rw [e, Int.mul_comm y, Int.mul_comm (2 ^ (32 - k)), Int.mul_emod_mul_of_pos _ _ (Int.pow_pos (by omega))]
  simp
theorem shr_eq (a n : Wd) (k : Nat) (hk : n.v % 32 = k) (h : k < 32) : ofR (bitI (a.v % 4294967296) k (32 - k) ++ List.replicate k 0) = .int .i32 (shrW a n).v := by
  rw [ofR_num (b01_append (b01_bits _ _ _) (b01_zeros k)) (by simp [bitI_length]; omega), numI_behind, numI_bits]
  show Value.int .i32 (wrap32 _) = .int .i32 (shrI a.v n.v)
  unfold shrI
  rw [sh_eq, hk, Int.toNat_natCast]
  have h0 : 0 ≤ a.v % 4294967296 := by omega
  have h1 : a.v % 4294967296 < 4294967296 := by omega
  generalize a.v % 4294967296 = y at *
  have hp : (0 : Int) < 2 ^ k := Int.pow_pos (by omega)
  rw [Int.emod_eq_of_lt (Int.ediv_nonneg h0 (by omega))]
  refine Int.ediv_lt_of_lt_mul hp ?_
  have e : (4294967296 : Int) = 2 ^ (32 - k) * 2 ^ k := by rw [← Int.pow_add, Nat.sub_add_cancel (by omega)]; decide
  omega
theorem sar_eq (a n : Wd) (k : Nat) (hk : n.v % 32 = k) (h : k < 32) : sarR a.v (Int.ofNat (2 ^ k)) = .int .i32 (sarW a n).v := by
  have ok := a.ok
  unfold In32 at ok
  show Value.int .i32 _ = .int .i32 (sarI a.v n.v)
  unfold sarI
  rw [sh_eq, hk, Int.toNat_natCast]
  have hp : (0 : Int) < 2 ^ k := Int.pow_pos (by omega)
  have hq : (2 : Int) ^ k ≤ 2147483648 := by
    have : (2 : Int) ^ k ≤ 2 ^ 31 := by exact_mod_cast Nat.pow_le_pow_right (by omega : 1 ≤ 2) (by omega : k ≤ 31)
    simpa using this
  have em : Int.ofNat (2 ^ k) = (2 : Int) ^ k := by simp
  rw [em]
  have w0 : IntKind.i64.wrap a.v = a.v := by rw [IntKind.wrap_i64]; omega
  have r0 := Int.emod_nonneg a.v (by omega : (2 : Int) ^ k ≠ 0)
  have r1 := Int.emod_lt_of_pos a.v hp
  have w1 : IntKind.i64.wrap (a.v - a.v % 2 ^ k) = a.v - a.v % 2 ^ k := by rw [IntKind.wrap_i64]; omega
  have e1 : a.v - a.v % 2 ^ k = 2 ^ k * (a.v / 2 ^ k) := by have := Int.emod_add_mul_ediv a.v (2 ^ k); omega
  have e2 : (a.v - a.v % 2 ^ k).tdiv (2 ^ k) = a.v / 2 ^ k := by rw [e1, Int.mul_tdiv_cancel_left _ (by omega)]
  have hs := sarW a n
  have b0 := (in_sar a.v n.v a.ok)
  unfold sarI In32 at b0
  rw [sh_eq, hk, Int.toNat_natCast] at b0
  rw [w0, w1, e2]
  congr 1
  rw [IntKind.wrap_i32, IntKind.wrap_i64]
  omega
theorem good_2 (a n : Wd) : goodL [.int .i32 a.v, .int .i32 n.v] := fun v hv => by
  simp at hv
  rcases hv with rfl | rfl
  · exact good_w a
  · exact good_w n
theorem by_all {n : Wd} {k m : Nat} (h : n.v % 32 = k) : ∀ ob ∈ List.replicate m (byOb n (Int.ofNat k)), ObOk Tryz.prog ob := fun ob hob => by
  rw [List.eq_of_mem_replicate hob]
  exact byOb_ok h
theorem mod32 (n : Wd) : ∃ k : Nat, n.v % 32 = k ∧ k < 32 := ⟨(n.v % 32).toNat, by omega, by omega⟩
theorem refShl (a n : Wd) (w : World) : Calls Tryz.prog 34 #[.int .i32 a.v, .int .i32 n.v] w fun e w' => e = .returned (.int .i32 (shlW a n).v) ∧ Chg w w' [] := by
  obtain ⟨k, hk, h⟩ := mod32 n
  have := cxR_calls _ (shl_run a n k h) (good_2 a n) (by_all hk) w
  rw [kW_self, shl_eq a n k hk h] at this
  exact this
theorem refShr (a n : Wd) (w : World) : Calls Tryz.prog 84 #[.int .i32 a.v, .int .i32 n.v] w fun e w' => e = .returned (.int .i32 (shrW a n).v) ∧ Chg w w' [] := by
  obtain ⟨k, hk, h⟩ := mod32 n
  have := cxR_calls _ (shr_run a n k h) (good_2 a n) (by_all hk) w
  rw [kW_self, shr_eq a n k hk h] at this
  exact this
theorem refSar (a n : Wd) (w : World) : Calls Tryz.prog 66 #[.int .i32 a.v, .int .i32 n.v] w fun e w' => e = .returned (.int .i32 (sarW a n).v) ∧ Chg w w' [] := by
  obtain ⟨k, hk, h⟩ := mod32 n
  have := cxR_calls _ (sar_run a n k h) (good_2 a n) (by_all hk) w
  rw [sar_eq a n k hk h] at this
  exact this
noncomputable def shlE : Ent := ent2 34 (fun a b => .int .i32 (shlW a b).v) (fun _ _ => goodC_w _) refShl
noncomputable def shrE : Ent := ent2 84 (fun a b => .int .i32 (shrW a b).v) (fun _ _ => goodC_w _) refShr
noncomputable def sarE : Ent := ent2 66 (fun a b => .int .i32 (sarW a b).v) (fun _ _ => goodC_w _) refSar
end Go.Proofs.YtkfkoobdmnndcaaGreat.Xi
