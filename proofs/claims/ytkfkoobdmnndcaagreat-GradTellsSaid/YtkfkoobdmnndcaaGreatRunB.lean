/- The reference's shifts, by runs: Of, Shl, Shr, Sar. -/
import Derived.Test.YtkfkoobdmnndcaaGreatRunA
namespace Go.Proofs.YtkfkoobdmnndcaaGreat.Xi
open Go Go.RowKit
set_option linter.unusedVariables false
def ints : List Value → Option (List Int)
  | [] => some []
  | .int .i64 b :: l => match ints l with | some r => some (b :: r) | none => none
  | _ :: _ => none
theorem ints_ok : ∀ {l : List Value} {r : List Int}, ints l = some r → l = r.map (.int .i64)
  | [], r, h => by injection h with h; subst h; rfl
  | .int .i64 b :: l, r, h => by
    unfold ints at h
    cases hl : ints l with
    | none => rw [hl] at h; cases h
    | some q =>
      rw [hl] at h
      injection h with h
      subst h
      rw [ints_ok hl]; rfl
  | .int .i8 _ :: _, _, h => by cases h
  | .int .i16 _ :: _, _, h => by cases h
  | .int .i32 _ :: _, _, h => by cases h
  | .int .u8 _ :: _, _, h => by cases h
  | .int .u16 _ :: _, _, h => by cases h
  | .int .u32 _ :: _, _, h => by cases h
  | .int .u64 _ :: _, _, h => by cases h
  | .bool _ :: _, _, h => by cases h
  | .float _ _ :: _, _, h => by cases h
  | .complex _ _ _ :: _, _, h => by cases h
  | .string _ :: _, _, h => by cases h
  | .pointer _ :: _, _, h => by cases h
  | .slice _ _ _ :: _, _, h => by cases h
  | .map _ :: _, _, h => by cases h
  | .chan _ :: _, _, h => by cases h
  | .func _ _ _ :: _, _, h => by cases h
  | .nilFunc :: _, _, h => by cases h
  | .iface _ _ :: _, _, h => by cases h
  | .nilIface :: _, _, h => by cases h
  | .tuple _ :: _, _, h => by cases h
  | .agg _ :: _, _, h => by cases h
def ofR (l : List Int) : Value := .int .i32 (kW (ofI l.reverse 0)).v
def fOf : List Value → Option Value
  | [.agg ds] => match ints ds.toList with
    | some l => bif Nat.beq l.length 32 then some (ofR l) else none
    | none => none
  | _ => none
set_option maxRecDepth 100000 in
theorem of_calls (l : List Int) (hl : l.length = 32) (hg : ∀ b ∈ l, goodV (.int .i64 b)) (w : World) : Calls Tryz.prog 69 #[.agg (l.map (.int .i64)).toArray] w fun e w' => e = .returned (ofR l) ∧ Chg w w' [] := by
  match l, hl with
  | [b0, b1, b2, b3, b4, b5, b6, b7, b8, b9, b10, b11, b12, b13, b14, b15, b16, b17, b18, b19, b20, b21, b22, b23, b24, b25, b26, b27, b28, b29, b30, b31], _ =>
    have h := cxR_calls _ (of_run b0 b1 b2 b3 b4 b5 b6 b7 b8 b9 b10 b11 b12 b13 b14 b15 b16 b17 b18 b19 b20 b21 b22 b23 b24 b25 b26 b27 b28 b29 b30 b31) (fun v hv => by
      have hv' : v ∈ ([b0, b1, b2, b3, b4, b5, b6, b7, b8, b9, b10, b11, b12, b13, b14, b15, b16, b17, b18, b19, b20, b21, b22, b23, b24, b25, b26, b27, b28, b29, b30, b31] : List Int).map (Value.int .i64) := hv
      obtain ⟨b, hb, rfl⟩ := List.mem_map.1 hv'
      exact hg b hb) (fun ob hob => by cases hob) w
    have e : (concL (getE [.int .i64 b0, .int .i64 b1, .int .i64 b2, .int .i64 b3, .int .i64 b4, .int .i64 b5, .int .i64 b6, .int .i64 b7, .int .i64 b8, .int .i64 b9, .int .i64 b10, .int .i64 b11, .int .i64 b12, .int .i64 b13, .int .i64 b14, .int .i64 b15, .int .i64 b16, .int .i64 b17, .int .i64 b18, .int .i64 b19, .int .i64 b20, .int .i64 b21, .int .i64 b22, .int .i64 b23, .int .i64 b24, .int .i64 b25, .int .i64 b26, .int .i64 b27, .int .i64 b28, .int .i64 b29, .int .i64 b30, .int .i64 b31]) [.agg (opqs 32 0)]).toArray = #[.agg (([b0, b1, b2, b3, b4, b5, b6, b7, b8, b9, b10, b11, b12, b13, b14, b15, b16, b17, b18, b19, b20, b21, b22, b23, b24, b25, b26, b27, b28, b29, b30, b31] : List Int).map (Value.int .i64)).toArray] := by kernel_rfl
    rw [e] at h
    exact h
noncomputable def ofE : Ent where
  f := 69
  fn := fOf
  ok := fun us v hv hg => by
    unfold fOf at hv
    split at hv
    · rename_i ds
      cases hi : ints ds.toList with
      | none => rw [hi] at hv; cases hv
      | some l =>
        rw [hi] at hv
        simp only [] at hv
        cases hb : Nat.beq l.length 32 with
        | false => rw [hb] at hv; cases hv
        | true =>
          rw [hb] at hv
          injection hv with hv
          subst hv
          have hd := ints_ok hi
          refine ⟨goodC_w _, fun w => ?_⟩
          have h := of_calls l (beq_iff.1 hb) (fun b hb => by
            rcases hg (.agg ds) (by simp) with h | ⟨ds', h, hd'⟩
            · cases h
            · injection h with h; subst h
              exact hd' _ (by rw [hd]; exact List.mem_map.2 ⟨b, hb, rfl⟩)) w
          rw [← hd] at h
          exact h
    · cases hv
set_option maxHeartbeats 400000 in
theorem by_calls (n : Wd) (w : World) : Calls Tryz.prog 68 #[.int .i32 n.v] w fun e w' => e = .returned (.int .i64 (n.v % 32)) ∧ Chg w w' [] := by
  have ok := n.ok
  unfold In32 at ok
  go_enter Tryz.func68, Tryz.ntmps68
  go_wp2_with fail
  refine (mod_calls n.v 32 _ (by omega) (by omega)).mono ?_
  rintro e w' ⟨rfl, rfl⟩
  go_wp2
  go_ret
  exact ⟨rfl, Chg.refl w []⟩
def byOb (n : Wd) (k : Int) : Ob := .call 68 [.int .i32 n.v] (.int .i64 k)
theorem byOb_ok {n : Wd} {k : Int} (h : n.v % 32 = k) : ObOk Tryz.prog (byOb n k) := fun w => by
  have := by_calls n w
  rw [h] at this
  exact this
def byS (k : Int) : List (FuncId × AV) := [(68, .lit (.int .i64 k))]
def bitS : List (FuncId × Sh) := [(67, .agg 32), (69, .one)]
noncomputable def bitT : List Ent := [bitsE, ofE]
set_option maxRecDepth 100000 in
theorem shl_run (a n : Wd) : ∀ k : Nat, k < 32 → runP (cxR (byS (Int.ofNat k)) bitS []) (tabOf bitT) 400 34 [.opq 0, .opq 1] [.int .i32 a.v, .int .i32 n.v] = some (ofR (List.replicate k 0 ++ bitI ((kW a.v).v % 4294967296) 0 (32 - k)), List.replicate (33 - k) (byOb n (Int.ofNat k)))
  | 0, _ => by kernel_rfl
  | 1, _ => by kernel_rfl
  | 2, _ => by kernel_rfl
  | 3, _ => by kernel_rfl
  | 4, _ => by kernel_rfl
  | 5, _ => by kernel_rfl
  | 6, _ => by kernel_rfl
  | 7, _ => by kernel_rfl
  | 8, _ => by kernel_rfl
  | 9, _ => by kernel_rfl
  | 10, _ => by kernel_rfl
  | 11, _ => by kernel_rfl
  | 12, _ => by kernel_rfl
  | 13, _ => by kernel_rfl
  | 14, _ => by kernel_rfl
  | 15, _ => by kernel_rfl
  | 16, _ => by kernel_rfl
  | 17, _ => by kernel_rfl
  | 18, _ => by kernel_rfl
  | 19, _ => by kernel_rfl
  | 20, _ => by kernel_rfl
  | 21, _ => by kernel_rfl
  | 22, _ => by kernel_rfl
  | 23, _ => by kernel_rfl
  | 24, _ => by kernel_rfl
  | 25, _ => by kernel_rfl
  | 26, _ => by kernel_rfl
  | 27, _ => by kernel_rfl
  | 28, _ => by kernel_rfl
  | 29, _ => by kernel_rfl
  | 30, _ => by kernel_rfl
  | 31, _ => by kernel_rfl
  | k + 32, h => absurd h (by omega)
set_option maxRecDepth 100000 in
theorem shr_run (a n : Wd) : ∀ k : Nat, k < 32 → runP (cxR (byS (Int.ofNat k)) bitS []) (tabOf bitT) 400 84 [.opq 0, .opq 1] [.int .i32 a.v, .int .i32 n.v] = some (ofR (bitI ((kW a.v).v % 4294967296) k (32 - k) ++ List.replicate k 0), List.replicate (65 - 2 * k) (byOb n (Int.ofNat k)))
  | 0, _ => by kernel_rfl
  | 1, _ => by kernel_rfl
  | 2, _ => by kernel_rfl
  | 3, _ => by kernel_rfl
  | 4, _ => by kernel_rfl
  | 5, _ => by kernel_rfl
  | 6, _ => by kernel_rfl
  | 7, _ => by kernel_rfl
  | 8, _ => by kernel_rfl
  | 9, _ => by kernel_rfl
  | 10, _ => by kernel_rfl
  | 11, _ => by kernel_rfl
  | 12, _ => by kernel_rfl
  | 13, _ => by kernel_rfl
  | 14, _ => by kernel_rfl
  | 15, _ => by kernel_rfl
  | 16, _ => by kernel_rfl
  | 17, _ => by kernel_rfl
  | 18, _ => by kernel_rfl
  | 19, _ => by kernel_rfl
  | 20, _ => by kernel_rfl
  | 21, _ => by kernel_rfl
  | 22, _ => by kernel_rfl
  | 23, _ => by kernel_rfl
  | 24, _ => by kernel_rfl
  | 25, _ => by kernel_rfl
  | 26, _ => by kernel_rfl
  | 27, _ => by kernel_rfl
  | 28, _ => by kernel_rfl
  | 29, _ => by kernel_rfl
  | 30, _ => by kernel_rfl
  | 31, _ => by kernel_rfl
  | k + 32, h => absurd h (by omega)
def g2p (R : Int → Int → Value) : List Value → Option Value
  | [.int .i64 a, .int .i64 b] => bif decide (0 < b) then some (R a b) else none
  | _ => none
noncomputable def modE : Ent where
  f := 57
  fn := g2p fun x n => .int .i64 (x % n)
  ok := fun us v hv hg => by
    unfold g2p at hv
    split at hv
    · rename_i a b
      cases hb : decide (0 < b) with
      | false => rw [hb] at hv; cases hv
      | true =>
        rw [hb] at hv
        injection hv with hv
        subst hv
        have h0 := of_decide_eq_true hb
        have ha := in64_of_good (good1_int (hg (.int .i64 a) (by simp)))
        have h1 := in64_of_good (good1_int (hg (.int .i64 b) (by simp)))
        have k0 := Int.emod_nonneg a (by omega : b ≠ 0)
        have k1 := Int.emod_lt_of_pos a h0
        refine ⟨goodC_64 (by omega), fun w => (mod_calls a b w ha ⟨h0, h1.2⟩).mono fun e w' ⟨he, hw⟩ => ⟨he, hw ▸ Chg.refl w []⟩⟩
    · cases hv
/-- Sar as it is reckoned. -/
def sarR (x m : Int) : Value := .int .i32 (IntKind.i32.wrap (IntKind.i64.wrap ((IntKind.i64.wrap (IntKind.i64.wrap x - IntKind.i64.wrap x % m)).tdiv m)))
set_option maxRecDepth 100000 in
theorem sar_run (a n : Wd) : ∀ k : Nat, k < 32 → runP (cxR (byS (Int.ofNat k)) [(57, .one)] []) (tabOf [modE]) 400 66 [.opq 0, .opq 1] [.int .i32 a.v, .int .i32 n.v] = some (sarR a.v (Int.ofNat (2 ^ k)), List.replicate (k + 1) (byOb n (Int.ofNat k)))
  | 0, _ => by kernel_rfl
  | 1, _ => by kernel_rfl
  | 2, _ => by kernel_rfl
  | 3, _ => by kernel_rfl
  | 4, _ => by kernel_rfl
  | 5, _ => by kernel_rfl
  | 6, _ => by kernel_rfl
  | 7, _ => by kernel_rfl
  | 8, _ => by kernel_rfl
  | 9, _ => by kernel_rfl
  | 10, _ => by kernel_rfl
  | 11, _ => by kernel_rfl
  | 12, _ => by kernel_rfl
  | 13, _ => by kernel_rfl
  | 14, _ => by kernel_rfl
  | 15, _ => by kernel_rfl
  | 16, _ => by kernel_rfl
  | 17, _ => by kernel_rfl
  | 18, _ => by kernel_rfl
  | 19, _ => by kernel_rfl
  | 20, _ => by kernel_rfl
  | 21, _ => by kernel_rfl
  | 22, _ => by kernel_rfl
  | 23, _ => by kernel_rfl
  | 24, _ => by kernel_rfl
  | 25, _ => by kernel_rfl
  | 26, _ => by kernel_rfl
  | 27, _ => by kernel_rfl
  | 28, _ => by kernel_rfl
  | 29, _ => by kernel_rfl
  | 30, _ => by kernel_rfl
  | 31, _ => by kernel_rfl
  | k + 32, h => absurd h (by omega)
end Go.Proofs.YtkfkoobdmnndcaaGreat.Xi
