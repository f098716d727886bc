/- The reference's bits, by runs: Bits, Of. -/
import Derived.Test.YtkfkoobdmnndcaaGreatTab
import Derived.Test.YtkfkoobdmnndcaaGreatRef01
namespace Go.Proofs.YtkfkoobdmnndcaaGreat.Xi
open Go Go.RowKit
set_option linter.unusedVariables false
theorem in64_of_32 (x : Wd) : -9223372036854775808 ≤ x.v % 4294967296 ∧ x.v % 4294967296 ≤ 9223372036854775807 := by omega
noncomputable def plainE : Ent := ent1 27 (fun a => .int .i64 (a.v % 4294967296)) (fun a => goodC_64 (in64_of_32 a)) (fun a w => (plain_calls a.v w a.ok).mono fun e w' ⟨he, hw⟩ => ⟨he, hw ▸ Chg.refl w []⟩)
noncomputable def lowE : Ent := entG1 28 (fun x => .int .i32 (kW x).v) (fun x hx => ⟨goodC_w _, fun w => (low_calls x w hx).mono fun e w' ⟨he, hw⟩ => ⟨he, hw ▸ Chg.refl w []⟩⟩)
/-- Bits as they are reckoned. -/
def bitsV : Nat → Int → List Value
  | 0, _ => []
  | n + 1, y => .int .i64 (IntKind.i64.wrap (y.tmod 2)) :: bitsV n (IntKind.i64.wrap (y.tdiv 2))
set_option maxRecDepth 100000 in
theorem bits_run (a : Wd) : runP (cxR [] [(27, .one)] []) (tabOf [plainE]) 200 67 [.opq 0] [.int .i32 a.v] = some (.agg (bitsV 32 ((kW a.v).v % 4294967296)).toArray, []) := by kernel_rfl
/-- A word's bits, from place i on, n of them. -/
def bitI (y : Int) : Nat → Nat → List Int
  | _, 0 => []
  | i, n + 1 => y / 2 ^ i % 2 :: bitI y (i + 1) n
theorem bitsV_eq : ∀ (n i : Nat) (y : Int), 0 ≤ y → y < 9223372036854775808 → bitsV n (y / 2 ^ i) = (bitI y i n).map (.int .i64)
  | 0, _, _, _, _ => rfl
  | n + 1, i, y, h0, h1 => by
    have hp : (0 : Int) < 2 ^ i := Int.pow_pos (by omega)
    have k0 : 0 ≤ y / 2 ^ i := Int.ediv_nonneg h0 (by omega)
    have k1 : y / 2 ^ i ≤ y := Int.ediv_le_self _ h0
    have e1 : IntKind.i64.wrap ((y / 2 ^ i).tmod 2) = y / 2 ^ i % 2 := by
      rw [Int.tmod_eq_emod_of_nonneg k0, IntKind.wrap_i64]; omega
    have e2 : IntKind.i64.wrap ((y / 2 ^ i).tdiv 2) = y / 2 ^ (i + 1) := by
      rw [Int.tdiv_eq_ediv_of_nonneg k0, Int.ediv_ediv_of_nonneg (by omega), Int.pow_succ, IntKind.wrap_i64]
      have k2 : 0 ≤ y / (2 ^ i * 2) := Int.ediv_nonneg h0 (by omega)
      have k3 : y / (2 ^ i * 2) ≤ y := Int.ediv_le_self _ h0
      omega
    simp only [bitsV, bitI, List.map_cons]
    rw [e1, e2, bitsV_eq n (i + 1) y h0 h1]
def bitsR (a : Wd) : Value := .agg ((bitI (a.v % 4294967296) 0 32).map (.int .i64)).toArray
theorem bits_calls (a : Wd) (w : World) : Calls Tryz.prog 67 #[.int .i32 a.v] w fun e w' => e = .returned (bitsR a) ∧ Chg w w' [] := by
  have h := cxR_calls _ (bits_run a) (fun v hv => by simp at hv; subst hv; exact good_w a) (fun ob hob => by cases hob) w
  rw [kW_self] at h
  have e := bitsV_eq 32 0 (a.v % 4294967296) (by omega) (by omega)
  rw [show a.v % 4294967296 / 2 ^ 0 = a.v % 4294967296 by simp] at e
  rw [e] at h
  exact h
theorem bitI_01 (y : Int) : ∀ (n i : Nat), ∀ x ∈ bitI y i n, x = 0 ∨ x = 1
  | 0, _, x, h => by cases h
  | n + 1, i, x, h => by
    rcases List.mem_cons.1 h with rfl | h
    · omega
    · exact bitI_01 y n (i + 1) x h
theorem bitI_length (y : Int) : ∀ (n i : Nat), (bitI y i n).length = n
  | 0, _ => rfl
  | n + 1, i => by simp [bitI, bitI_length y n (i + 1)]
theorem goodC_bits (a : Wd) : goodC (bitsR a) := .inl (.inr ⟨_, rfl, fun u hu => by
  simp only [List.mem_map] at hu
  obtain ⟨x, hx, rfl⟩ := hu
  rcases bitI_01 _ _ _ x hx with rfl | rfl <;> exact good_64 (by omega)⟩)
noncomputable def bitsE : Ent := ent1 67 bitsR goodC_bits bits_calls
/-- Of as it is reckoned. -/
def ofI : List Int → Int → Int
  | [], n => n
  | b :: l, n => ofI l (IntKind.i64.wrap (IntKind.i64.wrap (2 * n) + b))
set_option maxRecDepth 100000 in
theorem of_run (b0 b1 b2 b3 b4 b5 b6 b7 b8 b9 b10 b11 b12 b13 b14 b15 b16 b17 b18 b19 b20 b21 b22 b23 b24 b25 b26 b27 b28 b29 b30 b31 : Int) : runP (cxR [] [(28, .one)] []) (tabOf [lowE]) 200 69 [.agg (opqs 32 0)] [.int .i64 b0, .int .i64 b1, .int .i64 b2, .int .i64 b3, .int .i64 b4, .int .i64 b5, .int .i64 b6, .int .i64 b7, .int .i64 b8, .int .i64 b9, .int .i64 b10, .int .i64 b11, .int .i64 b12, .int .i64 b13, .int .i64 b14, .int .i64 b15, .int .i64 b16, .int .i64 b17, .int .i64 b18, .int .i64 b19, .int .i64 b20, .int .i64 b21, .int .i64 b22, .int .i64 b23, .int .i64 b24, .int .i64 b25, .int .i64 b26, .int .i64 b27, .int .i64 b28, .int .i64 b29, .int .i64 b30, .int .i64 b31] = some (.int .i32 (kW (ofI [b31, b30, b29, b28, b27, b26, b25, b24, b23, b22, b21, b20, b19, b18, b17, b16, b15, b14, b13, b12, b11, b10, b9, b8, b7, b6, b5, b4, b3, b2, b1, b0] 0)).v, []) := by kernel_rfl
end Go.Proofs.YtkfkoobdmnndcaaGreat.Xi
