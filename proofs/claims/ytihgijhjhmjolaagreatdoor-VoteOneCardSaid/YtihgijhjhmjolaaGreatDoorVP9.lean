/- Texts of this claim, side by side: RunE, RunF, RunG, RunH, RunJ. -/
import Derived.Test.YtihgijhjhmjolaaGreatDoorVP6
import Derived.Lib.ItoaNum
import Derived.Test.YtihgijhjhmjolaaGreatDoorVP7
import Derived.Test.YtihgijhjhmjolaaGreatDoorVP5
import Derived.Laws.StructEq
import Derived.Laws.Tables
import Derived.Test.YtihgijhjhmjolaaGreatDoorWorks10b
/- The reference's signs, picks, counts: Sign, Min, Max, Clamp, Flip, Clz. -/
namespace Go.Proofs.YtihgijhjhmjolaaGreatDoor.Xi
open Go Go.RowKit
set_option linter.unusedVariables false
set_option maxRecDepth 100000 in
theorem sign_run0 (a : Wd) : runP (cxR [] [] [(1, true)]) (tabOf []) 100 174 [.opq 0] [.int .i32 a.v] = some (.int .i32 (-1), [oLss 21 .i32 a.v 0 true]) := by kernel_rfl
set_option maxRecDepth 100000 in
theorem sign_run1 (a : Wd) : runP (cxR [] [] [(1, false)]) (tabOf []) 100 174 [.opq 0] [.int .i32 a.v] = some (.int .i32 0, [oLss 21 .i32 a.v 0 false]) := by kernel_rfl
theorem refSign (a : Wd) (w : World) : Calls Tryz.prog 174 #[.int .i32 a.v] w fun e w' => e = .returned (.int .i32 (signW a).v) ∧ Chg w w' [] := by
 have ha := a.ok
 unfold In32 at ha
 have hv : (signW a).v = a.v / 2147483648 := rfl
 rw [hv]
 by_cases h0 : a.v < 0
 · rw [show a.v / 2147483648 = -1 by omega]
   exact cxR_calls _ (sign_run0 a) (ins1 a) (obs1 (oLss_ok (by simpa using h0))) w
 · rw [show a.v / 2147483648 = 0 by omega]
   exact cxR_calls _ (sign_run1 a) (ins1 a) (obs1 (oLss_ok (by simpa using h0))) w
noncomputable def signE : Ent := ent1 174 (fun a => .int .i32 (signW a).v) (fun _ => goodC_w _) refSign
set_option maxRecDepth 100000 in
theorem min_run0 (a b : Wd) : runP (cxR [] [] [(2, true)]) (tabOf []) 100 131 [.opq 0, .opq 1] [.int .i32 a.v, .int .i32 b.v] = some (.int .i32 a.v, [oLss 21 .i32 a.v b.v true]) := by kernel_rfl
set_option maxRecDepth 100000 in
theorem min_run1 (a b : Wd) : runP (cxR [] [] [(2, false)]) (tabOf []) 100 131 [.opq 0, .opq 1] [.int .i32 a.v, .int .i32 b.v] = some (.int .i32 b.v, [oLss 21 .i32 a.v b.v false]) := by kernel_rfl
theorem refMin (a b : Wd) (w : World) : Calls Tryz.prog 131 #[.int .i32 a.v, .int .i32 b.v] w fun e w' => e = .returned (.int .i32 (minW a b).v) ∧ Chg w w' [] := by
 have hv : (minW a b).v = minI a.v b.v := rfl
 by_cases h0 : a.v < b.v
 · rw [hv, show minI a.v b.v = a.v by unfold minI; first | omega | (split <;> omega)]
   exact cxR_calls _ (min_run0 a b) (good_2 a b) (obs1 (oLss_ok (by simpa using h0))) w
 · rw [hv, show minI a.v b.v = b.v by unfold minI; first | omega | (split <;> omega)]
   exact cxR_calls _ (min_run1 a b) (good_2 a b) (obs1 (oLss_ok (by simpa using h0))) w
noncomputable def minE : Ent := ent2 131 (fun a b => .int .i32 (minW a b).v) (fun _ _ => goodC_w _) refMin
set_option maxRecDepth 100000 in
theorem max_run0 (a b : Wd) : runP (cxR [] [] [(2, true)]) (tabOf []) 100 130 [.opq 0, .opq 1] [.int .i32 a.v, .int .i32 b.v] = some (.int .i32 b.v, [oLss 21 .i32 a.v b.v true]) := by kernel_rfl
set_option maxRecDepth 100000 in
theorem max_run1 (a b : Wd) : runP (cxR [] [] [(2, false)]) (tabOf []) 100 130 [.opq 0, .opq 1] [.int .i32 a.v, .int .i32 b.v] = some (.int .i32 a.v, [oLss 21 .i32 a.v b.v false]) := by kernel_rfl
theorem refMax (a b : Wd) (w : World) : Calls Tryz.prog 130 #[.int .i32 a.v, .int .i32 b.v] w fun e w' => e = .returned (.int .i32 (maxW a b).v) ∧ Chg w w' [] := by
 have hv : (maxW a b).v = maxI a.v b.v := rfl
 by_cases h0 : a.v < b.v
 · rw [hv, show maxI a.v b.v = b.v by unfold maxI; first | omega | (split <;> omega)]
   exact cxR_calls _ (max_run0 a b) (good_2 a b) (obs1 (oLss_ok (by simpa using h0))) w
 · rw [hv, show maxI a.v b.v = a.v by unfold maxI; first | omega | (split <;> omega)]
   exact cxR_calls _ (max_run1 a b) (good_2 a b) (obs1 (oLss_ok (by simpa using h0))) w
noncomputable def maxE : Ent := ent2 130 (fun a b => .int .i32 (maxW a b).v) (fun _ _ => goodC_w _) refMax
set_option maxRecDepth 100000 in
theorem clamp_run0 (a b c : Wd) : runP (cxR [] [] [(3, true)]) (tabOf []) 100 61 [.opq 0, .opq 1, .opq 2] [.int .i32 a.v, .int .i32 b.v, .int .i32 c.v] = some (.int .i32 c.v, [oGtr 21 .i32 a.v c.v true]) := by kernel_rfl
set_option maxRecDepth 100000 in
theorem clamp_run1 (a b c : Wd) : runP (cxR [] [] [(3, false), (4, true)]) (tabOf []) 100 61 [.opq 0, .opq 1, .opq 2] [.int .i32 a.v, .int .i32 b.v, .int .i32 c.v] = some (.int .i32 c.v, [oGtr 21 .i32 b.v c.v true, oGtr 21 .i32 a.v c.v false]) := by kernel_rfl
set_option maxRecDepth 100000 in
theorem clamp_run2 (a b c : Wd) : runP (cxR [] [] [(3, false), (4, false), (5, true)]) (tabOf []) 100 61 [.opq 0, .opq 1, .opq 2] [.int .i32 a.v, .int .i32 b.v, .int .i32 c.v] = some (.int .i32 b.v, [oLss 21 .i32 a.v b.v true, oGtr 21 .i32 b.v c.v false, oGtr 21 .i32 a.v c.v false]) := by kernel_rfl
set_option maxRecDepth 100000 in
theorem clamp_run3 (a b c : Wd) : runP (cxR [] [] [(3, false), (4, false), (5, false)]) (tabOf []) 100 61 [.opq 0, .opq 1, .opq 2] [.int .i32 a.v, .int .i32 b.v, .int .i32 c.v] = some (.int .i32 a.v, [oLss 21 .i32 a.v b.v false, oGtr 21 .i32 b.v c.v false, oGtr 21 .i32 a.v c.v false]) := by kernel_rfl
noncomputable def clampW (a b c : Wd) : Wd := if c.v < a.v then c else if c.v < b.v then c else if a.v < b.v then b else a
theorem refClamp (a b c : Wd) (w : World) : Calls Tryz.prog 61 #[.int .i32 a.v, .int .i32 b.v, .int .i32 c.v] w fun e w' => e = .returned (.int .i32 (clampW a b c).v) ∧ Chg w w' [] := by
 unfold clampW
 by_cases h0 : c.v < a.v
 · rw [if_pos h0]
   exact cxR_calls _ (clamp_run0 a b c) (ins3 a b c) (obs1 (oGtr_ok (by simpa using h0))) w
 · rw [if_neg h0]
   by_cases h1 : c.v < b.v
   · rw [if_pos h1]
     exact cxR_calls _ (clamp_run1 a b c) (ins3 a b c) (obsC (oGtr_ok (by simpa using h1)) (obs1 (oGtr_ok (by simpa using h0)))) w
   · rw [if_neg h1]
     by_cases h2 : a.v < b.v
     · rw [if_pos h2]
       exact cxR_calls _ (clamp_run2 a b c) (ins3 a b c) (obsC (oLss_ok (by simpa using h2)) (obsC (oGtr_ok (by simpa using h1)) (obs1 (oGtr_ok (by simpa using h0))))) w
     · rw [if_neg h2]
       exact cxR_calls _ (clamp_run3 a b c) (ins3 a b c) (obsC (oLss_ok (by simpa using h2)) (obsC (oGtr_ok (by simpa using h1)) (obs1 (oGtr_ok (by simpa using h0))))) w
def flipL : List Int → List Int → List Int
 | b :: l, c :: m => IntKind.i64.wrap ((IntKind.i64.wrap (b + c)).tmod 2) :: flipL l m
 | _, _ => []
set_option maxRecDepth 100000 in
theorem flip_run (a m : Wd) : runP (cxR [] [(101, .agg 32), (102, .one), (79, .one)] []) (tabOf [bitsE, ofE, lowE]) 400 175 [.opq 0, .opq 1] [.int .i32 a.v, .int .i32 m.v] =
 some (.int .i32 (kW (IntKind.i64.wrap (IntKind.i64.wrap (kW (ofI (flipL (bitI ((kW a.v).v % 4294967296) 0 32) (bitI ((kW m.v).v % 4294967296) 0 32)).reverse 0)).v - IntKind.i64.wrap m.v))).v, []) := by kernel_rfl
theorem flipL_eq (Y Z : Nat) : ∀ n i, flipL (bitI Y i n) (bitI Z i n) = bitI ((Y ^^^ Z : Nat) : Int) i n
 | 0, i => rfl
 | n + 1, i => by
  simp only [bitI, flipL]
  rw [flipL_eq Y Z n (i + 1)]
  congr 1
  have h := Nat.testBit_xor Y Z i
  have c : ∀ X : Nat, ((X : Int) / 2 ^ i % 2) = ((X / 2 ^ i % 2 : Nat) : Int) := fun X => by simp
  have t : ∀ X : Nat, X.testBit i = decide (X / 2 ^ i % 2 = 1) := fun X => Nat.testBit_eq_decide_div_mod_eq
  rw [t, t, t] at h
  rw [c, c, c]
  have hy : Y / 2 ^ i % 2 = 0 ∨ Y / 2 ^ i % 2 = 1 := by omega
  have hz : Z / 2 ^ i % 2 = 0 ∨ Z / 2 ^ i % 2 = 1 := by omega
  have hr : (Y ^^^ Z) / 2 ^ i % 2 = 0 ∨ (Y ^^^ Z) / 2 ^ i % 2 = 1 := by omega
  generalize (Y ^^^ Z) / 2 ^ i % 2 = r at *
  generalize Y / 2 ^ i % 2 = y at *
  generalize Z / 2 ^ i % 2 = z at *
  rcases hy with rfl | rfl <;> rcases hz with rfl | rfl <;> rcases hr with rfl | rfl <;> first | (exfalso; revert h; decide) | decide +kernel
theorem xor_num (a m : Wd) : ∃ Y Z : Nat, a.v % 4294967296 = Y ∧ m.v % 4294967296 = Z ∧ (xorW a m).v = (kW ((Y ^^^ Z : Nat) : Int)).v ∧ Y ^^^ Z < 4294967296 := by
 refine ⟨(BitVec.ofInt 32 a.v).toNat, (BitVec.ofInt 32 m.v).toNat, ?_, ?_, ?_, ?_⟩
 · rw [BitVec.toNat_ofInt]; omega
 · rw [BitVec.toNat_ofInt]; omega
 · show IntKind.i32.wrap ((BitVec.ofInt 32 a.v ^^^ BitVec.ofInt 32 m.v).toNat : Int) = wrap32 _
   rw [BitVec.toNat_xor, IntKind.wrap_i32]; unfold wrap32; rfl
 · rw [← BitVec.toNat_xor]
   exact (BitVec.ofInt 32 a.v ^^^ BitVec.ofInt 32 m.v).isLt
theorem refFlip (a m : Wd) (w : World) : Calls Tryz.prog 175 #[.int .i32 a.v, .int .i32 m.v] w fun e w' => e = .returned (.int .i32 (flipW a m).v) ∧ Chg w w' [] := by
 have h := cxR_calls _ (flip_run a m) (good_2 a m) obs0 w
 obtain ⟨Y, Z, hY, hZ, hx, hlt⟩ := xor_num a m
 rw [kW_self, kW_self, hY, hZ, flipL_eq, ofI_num (b01_bits _ _ _) (by simp [bitI_length]), numI_bits] at h
 have e : (((Y ^^^ Z : Nat) : Int) / 2 ^ 0 % 2 ^ 32) = ((Y ^^^ Z : Nat) : Int) := by
  rw [show (2 : Int) ^ 0 = 1 from rfl, Int.ediv_one]
  omega
 have hm := m.ok
 have hq := (xorW a m).ok
 unfold In32 at hm hq
 rw [e, ← hx, w64, w64] at h
 have e2 : (kW (IntKind.i64.wrap ((xorW a m).v - m.v))).v = (flipW a m).v := by
  show wrap32 (IntKind.i64.wrap ((xorW a m).v - m.v)) = wrap32 ((xorW a m).v - m.v)
  rw [IntKind.wrap_i64]
  congr 1
  omega
 rw [e2] at h
 exact h
noncomputable def flipE : Ent := ent2 175 (fun a b => .int .i32 (flipW a b).v) (fun _ _ => goodC_w _) refFlip
def clzO (y : Int) : Nat → List Ob
 | 0 => []
 | j + 1 => oEql 2 .i64 (y / 2 ^ (31 - j) % 2) 0 true :: clzO y j
def clzB (c : Nat) : List (Nat × Bool) := (List.range c).map (fun j => (33 + j, true)) ++ [(33 + c, false)]
def clzOb (y : Int) (c : Nat) : List Ob := bif Nat.blt c 32 then oEql 2 .i64 (y / 2 ^ (31 - c) % 2) 0 false :: clzO y c else clzO y 32
set_option maxRecDepth 100000 in
theorem clz_run (a : Wd) : ∀ c : Nat, c < 33 → runP (cxR [] [(101, .agg 32)] (clzB c)) (tabOf [bitsE]) 400 132 [.opq 0] [.int .i32 a.v] = some (.int .i32 (Int.ofNat c), clzOb ((kW a.v).v % 4294967296) c)
 | 0, _ => by kernel_rfl
 | 1, _ => by kernel_rfl
 | 2, _ => by kernel_rfl
 | 3, _ => by kernel_rfl
 | 4, _ => by kernel_rfl
 | 5, _ => by kernel_rfl
 | 6, _ => by kernel_rfl
 | 7, _ => by kernel_rfl
 | 8, _ => by kernel_rfl
 | 9, _ => by kernel_rfl
 | 10, _ => by kernel_rfl
 | 11, _ => by kernel_rfl
 | 12, _ => by kernel_rfl
 | 13, _ => by kernel_rfl
 | 14, _ => by kernel_rfl
 | 15, _ => by kernel_rfl
 | 16, _ => by kernel_rfl
 | 17, _ => by kernel_rfl
 | 18, _ => by kernel_rfl
 | 19, _ => by kernel_rfl
 | 20, _ => by kernel_rfl
 | 21, _ => by kernel_rfl
 | 22, _ => by kernel_rfl
 | 23, _ => by kernel_rfl
 | 24, _ => by kernel_rfl
 | 25, _ => by kernel_rfl
 | 26, _ => by kernel_rfl
 | 27, _ => by kernel_rfl
 | 28, _ => by kernel_rfl
 | 29, _ => by kernel_rfl
 | 30, _ => by kernel_rfl
 | 31, _ => by kernel_rfl
 | 32, _ => by kernel_rfl
 | k + 33, h => absurd h (by omega)
theorem clzO_ok (y : Int) (c : Nat) (h0 : 0 ≤ y) (h : y < 2 ^ (32 - c)) : ∀ j, j ≤ c → j ≤ 32 → ∀ ob ∈ clzO y j, ObOk Tryz.prog ob
 | 0, _, _ => obs0
 | j + 1, h1, h2 => obsC (oEql_ok (by
  have hp : (2 : Int) ^ (32 - c) ≤ 2 ^ (31 - j) := by exact_mod_cast Nat.pow_le_pow_right (by omega : 1 ≤ 2) (by omega : 32 - c ≤ 31 - j)
  rw [Int.ediv_eq_zero_of_lt h0 (by omega)]; rfl)) (clzO_ok y c h0 h j (by omega) (by omega))
theorem refClz (a : Wd) (w : World) : Calls Tryz.prog 132 #[.int .i32 a.v] w fun e w' => e = .returned (.int .i32 (clzW a).v) ∧ Chg w w' [] := by
 obtain ⟨Y, hY⟩ : ∃ Y : Nat, a.v % 4294967296 = Y := ⟨(a.v % 4294967296).toNat, by omega⟩
 have hlt : Y < 4294967296 := by omega
 have hv : (clzW a).v = 32 - (Lib.bitLen Y : Int) := by show 32 - (Lib.bitLen (a.v % 4294967296).toNat : Int) = _; rw [hY, Int.toNat_natCast]
 rw [hv]
 by_cases h0 : Y = 0
 · subst h0
   have hb : Lib.bitLen 0 = 0 := Lib.bitLenAux_zero 64
   rw [hb]
   have h := cxR_calls _ (clz_run a 32 (by omega)) (ins1 a) (by
    rw [kW_self, hY]
    exact clzO_ok _ 32 (by omega) (by decide) 32 (by omega) (by omega)) w
   exact h
 · obtain ⟨l1, l2, l3⟩ := Lib.bitLenAux_bounds 64 Y (by omega) h0
   have hL : Lib.bitLenAux 64 Y = Lib.bitLen Y := rfl
   rw [hL] at l1 l2 l3
   have l4 : Lib.bitLen Y ≤ 32 := by
    rcases Nat.lt_or_ge 32 (Lib.bitLen Y) with h | h
    · have : 2 ^ 32 ≤ 2 ^ (Lib.bitLen Y - 1) := Nat.pow_le_pow_right (by omega) (by omega)
      omega
    · exact h
   generalize Lib.bitLen Y = n at *
   have h := cxR_calls _ (clz_run a (32 - n) (by omega)) (ins1 a) (by
    rw [kW_self, hY]
    unfold clzOb
    rw [show Nat.blt (32 - n) 32 = true from blt_iff.2 (by omega)]
    refine obsC (oEql_ok ?_) (clzO_ok _ (32 - n) (by omega) (by rw [show 32 - (32 - n) = n by omega]; exact_mod_cast l3) _ (by omega) (by omega))
    rw [show 31 - (32 - n) = n - 1 by omega]
    have e : (Y : Int) / 2 ^ (n - 1) = 1 := by
     have : Y / 2 ^ (n - 1) = 1 := by
      have hp : 2 ^ n = 2 * 2 ^ (n - 1) := by rw [← Nat.pow_succ']; congr 1; omega
      refine Nat.div_eq_of_lt_le (by omega) (by omega)
     rw [show (Y : Int) / 2 ^ (n - 1) = ((Y / 2 ^ (n - 1) : Nat) : Int) by simp, this]; rfl
    rw [e]; rfl) w
   have e : Int.ofNat (32 - n) = 32 - (n : Int) := by simp; omega
   rw [e] at h
   exact h
noncomputable def clzE : Ent := ent1 132 (fun a => .int .i32 (clzW a).v) (fun _ => goodC_w _) refClz
end Go.Proofs.YtihgijhjhmjolaaGreatDoor.Xi

/- Calls with lists; the reference's roots: Level, Rsqrt, Scale, Sqrt. -/
namespace Go.Proofs.YtihgijhjhmjolaaGreatDoor.Xi
open Go Go.RowKit
set_option linter.unusedVariables false
inductive PA where
 | w (x : Wd)
 | a (l : List Wd)
def PA.val : PA → Value
 | .w x => .int .i32 x.v
 | .a l => .agg (l.map fun x => .int .i32 x.v).toArray
def pws : List Value → Option (List Wd)
 | [] => some []
 | .int .i32 n :: l => match pws l with | some r => some (kW n :: r) | none => none
 | _ :: _ => none
def pas : List Value → Option (List PA)
 | [] => some []
 | .int .i32 n :: l => match pas l with | some r => some (.w (kW n) :: r) | none => none
 | .agg ds :: l => match pws ds.toList with
  | some q => match pas l with | some r => some (.a q :: r) | none => none
  | none => none
 | _ :: _ => none
theorem pws_ok : ∀ {l : List Value} {r : List Wd}, pws l = some r → (∀ u ∈ l, goodV u) → l = r.map fun x => .int .i32 x.v
 | [], r, h, hg => by injection h with h; subst h; rfl
 | .int .i32 n :: l, r, h, hg => by
  unfold pws at h
  cases hl : pws l with
  | none => rw [hl] at h; cases h
  | some q =>
   rw [hl] at h
   injection h with h
   subst h
   rw [List.map_cons, ← pws_ok hl (fun u hu => hg u (by simp [hu])), kW_good (hg (.int .i32 n) (by simp))]
 | .int .i8 _ :: _, _, h, _ => by cases h
 | .int .i16 _ :: _, _, h, _ => by cases h
 | .int .i64 _ :: _, _, h, _ => by cases h
 | .int .u8 _ :: _, _, h, _ => by cases h
 | .int .u16 _ :: _, _, h, _ => by cases h
 | .int .u32 _ :: _, _, h, _ => by cases h
 | .int .u64 _ :: _, _, h, _ => by cases h
 | .bool _ :: _, _, h, _ => by cases h
 | .float _ _ :: _, _, h, _ => by cases h
 | .complex _ _ _ :: _, _, h, _ => by cases h
 | .string _ :: _, _, h, _ => by cases h
 | .pointer _ :: _, _, h, _ => by cases h
 | .slice _ _ _ :: _, _, h, _ => by cases h
 | .map _ :: _, _, h, _ => by cases h
 | .chan _ :: _, _, h, _ => by cases h
 | .func _ _ _ :: _, _, h, _ => by cases h
 | .nilFunc :: _, _, h, _ => by cases h
 | .iface _ _ :: _, _, h, _ => by cases h
 | .nilIface :: _, _, h, _ => by cases h
 | .tuple _ :: _, _, h, _ => by cases h
 | .agg _ :: _, _, h, _ => by cases h
theorem pas_ok : ∀ {l : List Value} {r : List PA}, pas l = some r → (∀ u ∈ l, good1 u) → l = r.map PA.val
 | [], r, h, hg => by injection h with h; subst h; rfl
 | .int .i32 n :: l, r, h, hg => by
  unfold pas at h
  cases hl : pas l with
  | none => rw [hl] at h; cases h
  | some q =>
   rw [hl] at h
   injection h with h
   subst h
   rw [List.map_cons, ← pas_ok hl (fun u hu => hg u (by simp [hu]))]
   show _ = Value.int .i32 (kW n).v :: l
   rw [kW_good (good1_int (hg (.int .i32 n) (by simp)))]
 | .agg ds :: l, r, h, hg => by
  unfold pas at h
  cases hd : pws ds.toList with
  | none => rw [hd] at h; cases h
  | some d =>
   rw [hd] at h
   simp only [] at h
   cases hl : pas l with
   | none => rw [hl] at h; cases h
   | some q =>
    rw [hl] at h
    injection h with h
    subst h
    have hgd : ∀ u ∈ ds.toList, goodV u := by
     rcases hg (.agg ds) (by simp) with h | ⟨ds', h, hd'⟩
     · cases h
     · injection h with h; subst h; exact hd'
    rw [List.map_cons, ← pas_ok hl (fun u hu => hg u (by simp [hu]))]
    show _ = Value.agg (d.map fun x => .int .i32 x.v).toArray :: l
    rw [← pws_ok hd hgd]
 | .int .i8 _ :: _, _, h, _ => by cases h
 | .int .i16 _ :: _, _, h, _ => by cases h
 | .int .i64 _ :: _, _, h, _ => by cases h
 | .int .u8 _ :: _, _, h, _ => by cases h
 | .int .u16 _ :: _, _, h, _ => by cases h
 | .int .u32 _ :: _, _, h, _ => by cases h
 | .int .u64 _ :: _, _, h, _ => by cases h
 | .bool _ :: _, _, h, _ => by cases h
 | .float _ _ :: _, _, h, _ => by cases h
 | .complex _ _ _ :: _, _, h, _ => by cases h
 | .string _ :: _, _, h, _ => by cases h
 | .pointer _ :: _, _, h, _ => by cases h
 | .slice _ _ _ :: _, _, h, _ => by cases h
 | .map _ :: _, _, h, _ => by cases h
 | .chan _ :: _, _, h, _ => by cases h
 | .func _ _ _ :: _, _, h, _ => by cases h
 | .nilFunc :: _, _, h, _ => by cases h
 | .iface _ _ :: _, _, h, _ => by cases h
 | .nilIface :: _, _, h, _ => by cases h
 | .tuple _ :: _, _, h, _ => by cases h
def fP (R : List PA → Option Value) (us : List Value) : Option Value := match pas us with | some ps => R ps | none => none
def entP (f : FuncId) (R : List PA → Option Value) (h : ∀ ps v, R ps = some v → goodC v ∧ ∀ w : World, Calls Tryz.prog f (ps.map PA.val).toArray w fun e w' => e = .returned v ∧ Chg w w' []) : Ent where
 f := f
 fn := fP R
 ok := fun us v hv hg => by
  unfold fP at hv
  cases hp : pas us with
  | none => rw [hp] at hv; cases hv
  | some ps =>
   rw [hp] at hv
   have := h ps v hv
   rw [← pas_ok hp hg] at this
   exact this
theorem good1_l (l : List Wd) : good1 (.agg (l.map fun x => .int .i32 x.v).toArray) := .inr ⟨_, rfl, fun u hu => by
 simp only [List.mem_map] at hu
 obtain ⟨x, _, rfl⟩ := hu
 exact good_w x⟩
theorem goodC_l (l : List Wd) : goodC (.agg (l.map fun x => .int .i32 x.v).toArray) := .inl (good1_l l)
theorem goodC_2 (a b : Wd) : goodC (.tuple #[.int .i32 a.v, .int .i32 b.v]) := .inr ⟨_, rfl, fun u hu => by
 simp at hu
 rcases hu with rfl | rfl
 · exact .inl (good_w _)
 · exact .inl (good_w _)⟩
def wl (l : List Wd) : List Value := l.map fun x => .int .i32 x.v
theorem goodL_l (l : List Wd) : goodL (wl l) := fun v hv => by
 obtain ⟨x, _, rfl⟩ := List.mem_map.1 hv
 exact good_w x
def addK (a b : Int) : Int := (addsW (kW a) (kW b)).v
def subK (a b : Int) : Int := (subsW (kW a) (kW b)).v
def mulK (a b : Int) : Int := (mulqW (kW a) (kW b)).v
def shlK (a b : Int) : Int := (shlW (kW a) (kW b)).v
def shrK (a b : Int) : Int := (shrW (kW a) (kW b)).v
def sarK (a b : Int) : Int := (sarW (kW a) (kW b)).v
def levT0 (c : Int) : Int := IntKind.i32.wrap (c - IntKind.i32.wrap (c.tmod 2))
def levT1 (c : Int) : Int := levT0 (IntKind.i32.wrap (c - 32))
def levS : List (FuncId × Sh) := [(132, .one), (52, .one), (134, .one)]
noncomputable def levT : List Ent := [clzE, shlE, shrE]
set_option maxRecDepth 100000 in
theorem level_run0 (a : Wd) : runP (cxR [] levS [(2, true)]) (tabOf levT) 100 160 [.opq 0] [.int .i32 a.v] = some (.tuple #[.int .i32 (shrK (shlK a.v (levT1 (clzW (kW a.v)).v)) 2), .int .i32 (IntKind.i32.wrap ((levT1 (clzW (kW a.v)).v).tdiv 2))], [oGeq 21 .i32 (clzW (kW a.v)).v 32 true]) := by kernel_rfl
set_option maxRecDepth 100000 in
theorem level_run1 (a : Wd) : runP (cxR [] levS [(2, false)]) (tabOf levT) 100 160 [.opq 0] [.int .i32 a.v] = some (.tuple #[.int .i32 (shrK (shlK a.v (levT0 (clzW (kW a.v)).v)) 2), .int .i32 (IntKind.i32.wrap ((levT0 (clzW (kW a.v)).v).tdiv 2))], [oGeq 21 .i32 (clzW (kW a.v)).v 32 false]) := by kernel_rfl
def rootH (x : Wd) : Wd := shrW (rootT x) (kW 1)
theorem lev_all : ∀ c : Fin 32, levT0 (Int.ofNat c.val) = andI (Int.ofNat c.val) 30 ∧ IntKind.i32.wrap ((levT0 (Int.ofNat c.val)).tdiv 2) = shrI (andI (Int.ofNat c.val) 30) 1 := by decide +kernel
theorem clz_bd (a : Wd) : 0 ≤ (clzW a).v ∧ (clzW a).v ≤ 32 := by
 have h := Any.bitLen_le32 (a.v % 4294967296) (by omega) (by omega)
 show 0 ≤ 32 - (Lib.bitLen (a.v % 4294967296).toNat : Int) ∧ 32 - (Lib.bitLen (a.v % 4294967296).toNat : Int) ≤ 32
 omega
theorem refLevel (a : Wd) (w : World) : Calls Tryz.prog 160 #[.int .i32 a.v] w fun e w' => e = .returned (.tuple #[.int .i32 (rootU a).v, .int .i32 (rootH a).v]) ∧ Chg w w' [] := by
 have hc := clz_bd a
 have key : ∀ T : Int, T = (rootT a).v → IntKind.i32.wrap (T.tdiv 2) = (rootH a).v → Value.tuple #[.int .i32 (shrK (shlK a.v T) 2), .int .i32 (IntKind.i32.wrap (T.tdiv 2))] = .tuple #[.int .i32 (rootU a).v, .int .i32 (rootH a).v] := fun T h1 h2 => by
  rw [h2, h1]
  unfold shrK shlK
  rw [kW_self, kW_self, kW_self]
  rfl
 by_cases h32 : 32 ≤ (clzW a).v
 · have e : (clzW a).v = 32 := by omega
   have h := cxR_calls _ (level_run0 a) (ins1 a) (obs1 (oGeq_ok (by rw [kW_self]; simpa using h32))) w
   rw [kW_self] at h
   rw [key _ ?_ ?_] at h
   · exact h
   · rw [e]; show levT1 32 = andI (clzW a).v (kW 30).v; rw [e]; decide +kernel
   · rw [e]; show _ = shrI (andI (clzW a).v (kW 30).v) (kW 1).v; rw [e]; decide +kernel
 · obtain ⟨q1, q2⟩ := lev_all ⟨(clzW a).v.toNat, by omega⟩
   have e : Int.ofNat (clzW a).v.toNat = (clzW a).v := by simp; omega
   simp only [e] at q1 q2
   have h := cxR_calls _ (level_run1 a) (ins1 a) (obs1 (oGeq_ok (by rw [kW_self]; simpa using h32))) w
   rw [kW_self] at h
   have k30 : (kW 30).v = 30 := kW_v (by decide)
   have k1 : (kW 1).v = 1 := kW_v (by decide)
   rw [key _ (q1.trans (by show _ = andI (clzW a).v (kW 30).v; rw [k30])) (q2.trans (by show _ = shrI (andI (clzW a).v (kW 30).v) (kW 1).v; rw [k30, k1]))] at h
   exact h
def R1 (F : Wd → Value) : List PA → Option Value
 | [.w a] => some (F a)
 | _ => none
noncomputable def levelE : Ent := ent1 160 (fun a => .tuple #[.int .i32 (rootU a).v, .int .i32 (rootH a).v]) (fun a => goodC_2 _ _) refLevel
theorem up_eq (a : Wd) {n : Int} (h : In32 n) : upW a n = shlW a (kW n) := Wd.ext_ (by show shlI a.v n = shlI a.v (kW n).v; rw [kW_v h])
theorem down_eq (a : Wd) {n : Int} (h : In32 n) : downW a n = sarW a (kW n) := Wd.ext_ (by show sarI a.v n = sarI a.v (kW n).v; rw [kW_v h])
def rsK (u : Int) : Nat → Int
 | 0 => subK 1184766729 (mulK 715827883 u)
 | n + 1 => addK (rsK u n) (sarK (mulK (rsK u n) (subK 1073741824 (shlK (mulK u (mulK (rsK u n) (rsK u n))) 2))) 1)
def rsS : List (FuncId × Sh) := [(160, .two .one .one), (129, .one), (58, .one), (62, .one), (52, .one), (37, .one)]
noncomputable def rsT : List Ent := [levelE, mulqE, addE, subE, shlE, sarE]
set_option maxRecDepth 100000 in
theorem rsqrt_run (a : Wd) : runP (cxR [] rsS []) (tabOf rsT) 100 108 [.opq 0] [.int .i32 a.v] = some (.tuple #[.int .i32 (rsK (rootU (kW a.v)).v 4), .int .i32 (rootH (kW a.v)).v], []) := by kernel_rfl
theorem rsK_eq (u : Wd) : ∀ n, rsK u.v n = (rootZ u n).v
 | 0 => by unfold rsK subK mulK; rw [kW_self, kW_self]; rfl
 | n + 1 => by
  unfold rsK addK sarK mulK subK shlK
  rw [rsK_eq u n]
  simp only [kW_self]
  rw [rootZ, rootStep, up_eq _ (by decide), down_eq _ (by decide)]
theorem refRsqrt (a : Wd) (w : World) : Calls Tryz.prog 108 #[.int .i32 a.v] w fun e w' => e = .returned (.tuple #[.int .i32 (rootW a).1.v, .int .i32 (rootW a).2.v]) ∧ Chg w w' [] := by
 have h := cxR_calls _ (rsqrt_run a) (ins1 a) obs0 w
 rw [kW_self, rsK_eq] at h
 exact h
noncomputable def rsqrtE : Ent := ent1 108 (fun a => .tuple #[.int .i32 (rootW a).1.v, .int .i32 (rootW a).2.v]) (fun a => goodC_2 _ _) refRsqrt
set_option maxRecDepth 100000 in
theorem scale_run (a z h : Wd) : runP (cxR [] rsS []) (tabOf rsT) 100 110 [.opq 0, .opq 1, .opq 2] [.int .i32 a.v, .int .i32 z.v, .int .i32 h.v] = some (.int .i32 (shlK (mulK a.v z.v) h.v), []) := by kernel_rfl
theorem refScale (a z h : Wd) (w : World) : Calls Tryz.prog 110 #[.int .i32 a.v, .int .i32 z.v, .int .i32 h.v] w fun e w' => e = .returned (.int .i32 (scaledW a z h).v) ∧ Chg w w' [] := by
 have h := cxR_calls _ (scale_run a z h) (ins3 a z h) obs0 w
 unfold shlK mulK at h
 simp only [kW_self] at h
 exact h
noncomputable def scaleE : Ent := ent3 110 (fun a b c => .int .i32 (scaledW a b c).v) (fun _ _ _ => goodC_w _) refScale
set_option maxRecDepth 100000 in
theorem sqrt_run (a : Wd) : runP (cxR [] [(108, .two .one .one), (110, .one)] []) (tabOf [rsqrtE, scaleE]) 100 72 [.opq 0] [.int .i32 a.v] = some (.int .i32 (scaledW (kW a.v) (kW (rootW (kW a.v)).1.v) (kW (rootW (kW a.v)).2.v)).v, []) := by kernel_rfl
theorem refSqrt (a : Wd) (w : World) : Calls Tryz.prog 72 #[.int .i32 a.v] w fun e w' => e = .returned (.int .i32 (sqrtW a).v) ∧ Chg w w' [] := by
 have h := cxR_calls _ (sqrt_run a) (ins1 a) obs0 w
 simp only [kW_self] at h
 exact h
noncomputable def sqrtE : Ent := ent1 72 (fun a => .int .i32 (sqrtW a).v) (fun _ => goodC_w _) refSqrt
end Go.Proofs.YtihgijhjhmjolaaGreatDoor.Xi

/- Layer 32: the reference's norm, gates, Unit are the program's. -/
namespace Go.Proofs.YtihgijhjhmjolaaGreatDoor.Xi
open Go Go.RowKit
set_option linter.unusedVariables false
def RV (F : Wd → Wd → Wd → Value) : List PA → Option Value
 | [.a [x, y, z]] => some (F x y z)
 | _ => none
def entV (f : FuncId) (F : Wd → Wd → Wd → Value) (hR : ∀ a b c, goodC (F a b c)) (h : ∀ (a b c : Wd) (w : World), Calls Tryz.prog f #[.agg #[.int .i32 a.v, .int .i32 b.v, .int .i32 c.v]] w fun e w' => e = .returned (F a b c) ∧ Chg w w' []) : Ent :=
 entP f (RV F) fun ps v hv => by
  unfold RV at hv
  split at hv
  · injection hv with hv
    subst hv
    exact ⟨hR _ _ _, h _ _ _⟩
  · cases hv
def q4 (a b c d : Wd) : Value := .agg #[.int .i32 a.v, .int .i32 b.v, .int .i32 c.v, .int .i32 d.v]
def q3 (a b c : Wd) : Value := .agg #[.int .i32 a.v, .int .i32 b.v, .int .i32 c.v]
theorem goodC_q4 (a b c d : Wd) : goodC (q4 a b c d) := goodC_l [a, b, c, d]
theorem oArr_ok {T : TypeId} {xs ys : Array Value} {r : Bool} (hm : Tryz.prog.eqGuardType Tryz.prog.depth T = false) (h : ∀ w, (Op.equalIn 10000 T (.agg xs) (.agg ys)).run Tryz.prog w = .ok r w) : ObOk Tryz.prog (.test (.bin .eql T) [.agg xs, .agg ys] (.bool r)) := fun a b w => by
 rw [Sem.run_bind, run_eqGuard_agg w .eql T a b xs ys hm, Result.andThen_ok, run_eql_struct, h]
 rfl
theorem square_ref (a b c : Wd) : (squareW a b c).v = refNorm a.v b.v c.v := by
 show addI (addI (mulI a.v a.v) (mulI b.v b.v)) (mulI c.v c.v) = _
 unfold addI mulI refNorm sqP
 generalize a.v * a.v = x
 generalize b.v * b.v = y
 generalize c.v * c.v = z
 unfold wrap32
 omega
theorem inside_ref (a b c : Wd) (lo hi : Int) (h0 : 0 ≤ lo ∧ lo ≤ 2147483647) (h1 : 0 ≤ hi ∧ hi ≤ 2147483647) :
 inside lo hi a.v b.v c.v = gateB (squareW a b c) lo hi := by
 have e := square_ref a b c
 have k0 : (kW lo).v = lo := kW_v ⟨by omega, by omega⟩
 have k1 : (kW hi).v = hi := kW_v ⟨by omega, by omega⟩
 have hw : (withinW (squareW a b c) (kW lo) (kW hi)).v = subI (orI (ltuI (squareW a b c).v (kW lo).v) (ltuI (kW hi).v (squareW a b c).v)) (kW 1).v := rfl
 unfold gateB
 rw [hw, e, k0, k1]
 unfold inside ltuI
 have m0 : lo % 4294967296 = lo := by omega
 have m1 : hi % 4294967296 = hi := by omega
 rw [m0, m1]
 generalize refNorm a.v b.v c.v % 4294967296 = p
 by_cases u : p < lo <;> by_cases v : hi < p
 · rw [if_pos u, if_pos v, show subI (orI 1 1) (kW 1).v = 0 by decide +kernel]; simp; omega
 · rw [if_pos u, if_neg v, show subI (orI 1 0) (kW 1).v = 0 by decide +kernel]; simp; omega
 · rw [if_neg u, if_pos v, show subI (orI 0 1) (kW 1).v = 0 by decide +kernel]; simp; omega
 · rw [if_neg u, if_neg v, show subI (orI 0 0) (kW 1).v = -1 by decide +kernel]; simp; omega
noncomputable def rNormE : Ent := entV 109 (fun a b c => .int .i32 (squareW a b c).v) (fun _ _ _ => goodC_w _) fun a b c w => by
 rw [square_ref]
 exact (refNorm_calls a.v b.v c.v w a.ok b.ok c.ok)
def scK (a z h : Int) : Int := (scaledW (kW a) (kW z) (kW h)).v
def p3 (a b c : Wd) : Value := .agg #[.int .i32 a.v, .int .i32 b.v, .int .i32 c.v]
def gu (a b c : Wd) (v : Int) : Value := .int .i32 (scK (shlK v 15) (rootW (kW (squareW (kW a.v) (kW b.v) (kW c.v)).v)).1.v (rootW (kW (squareW (kW a.v) (kW b.v) (kW c.v)).v)).2.v)
set_option maxRecDepth 100000 in
theorem gunit_run (a b c : Wd) : runP (cxR [] [(109, .one), (108, .two .one .one), (52, .one), (110, .one)] []) (tabOf [rNormE, rsqrtE, shlE, scaleE]) 200 55 [.agg [.opq 0, .opq 1, .opq 2]] [.int .i32 a.v, .int .i32 b.v, .int .i32 c.v] =
 some (.agg #[gu a b c a.v, gu a b c b.v, gu a b c c.v], []) := by kernel_rfl
theorem refGUnit (a b c : Wd) (w : World) : Calls Tryz.prog 55 #[.agg #[.int .i32 a.v, .int .i32 b.v, .int .i32 c.v]] w fun e w' => e = .returned (q3 (pointW a b c).a (pointW a b c).b (pointW a b c).c) ∧ Chg w w' [] := by
 have h := cxR_calls _ (gunit_run a b c) (ins3 a b c) obs0 w
 unfold gu scK shlK at h
 simp only [kW_self] at h
 have e : q3 (pointW a b c).a (pointW a b c).b (pointW a b c).c = q3 (scaledW (shlW a (kW 15)) (rootW (squareW a b c)).1 (rootW (squareW a b c)).2) (scaledW (shlW b (kW 15)) (rootW (squareW a b c)).1 (rootW (squareW a b c)).2) (scaledW (shlW c (kW 15)) (rootW (squareW a b c)).1 (rootW (squareW a b c)).2) := by
  unfold pointW
  rw [up_eq a (by decide : In32 15), up_eq b (by decide : In32 15), up_eq c (by decide : In32 15)]
 rw [e]
 exact h
end Go.Proofs.YtihgijhjhmjolaaGreatDoor.Xi

/- Layers 10 and 33: the reference's products, rates, pull, field are the program's. -/
namespace Go.Proofs.YtihgijhjhmjolaaGreatDoor.Xi
open Go Go.RowKit
set_option linter.unusedVariables false
def RQ (F : Wd → Wd → Wd → Wd → Value) : List PA → Option Value
 | [.a [a, b, c, d]] => some (F a b c d)
 | _ => none
def entQ (f : FuncId) (F : Wd → Wd → Wd → Wd → Value) (hR : ∀ a b c d, goodC (F a b c d)) (h : ∀ (a b c d : Wd) (w : World), Calls Tryz.prog f #[q4 a b c d] w fun e w' => e = .returned (F a b c d) ∧ Chg w w' []) : Ent :=
 entP f (RQ F) fun ps v hv => by
  unfold RQ at hv
  split at hv
  · injection hv with hv
    subst hv
    exact ⟨hR _ _ _ _, h _ _ _ _⟩
  · cases hv
def RQV (F : Wd → Wd → Wd → Wd → Wd → Wd → Wd → Value) : List PA → Option Value
 | [.a [a, b, c, d], .a [x, y, z]] => some (F a b c d x y z)
 | _ => none
def entQV (f : FuncId) (F : Wd → Wd → Wd → Wd → Wd → Wd → Wd → Value) (hR : ∀ a b c d x y z, goodC (F a b c d x y z)) (h : ∀ (a b c d x y z : Wd) (w : World), Calls Tryz.prog f #[q4 a b c d, q3 x y z] w fun e w' => e = .returned (F a b c d x y z) ∧ Chg w w' []) : Ent :=
 entP f (RQV F) fun ps v hv => by
  unfold RQV at hv
  split at hv
  · injection hv with hv
    subst hv
    exact ⟨hR _ _ _ _ _ _ _, h _ _ _ _ _ _ _⟩
  · cases hv
def RQQ (F : Wd → Wd → Wd → Wd → Wd → Wd → Wd → Wd → Value) : List PA → Option Value
 | [.a [a, b, c, d], .a [x, y, z, t]] => some (F a b c d x y z t)
 | _ => none
def entQQ (f : FuncId) (F : Wd → Wd → Wd → Wd → Wd → Wd → Wd → Wd → Value) (hR : ∀ a b c d x y z t, goodC (F a b c d x y z t)) (h : ∀ (a b c d x y z t : Wd) (w : World), Calls Tryz.prog f #[q4 a b c d, q4 x y z t] w fun e w' => e = .returned (F a b c d x y z t) ∧ Chg w w' []) : Ent :=
 entP f (RQQ F) fun ps v hv => by
  unfold RQQ at hv
  split at hv
  · injection hv with hv
    subst hv
    exact ⟨hR _ _ _ _ _ _ _ _, h _ _ _ _ _ _ _ _⟩
  · cases hv
abbrev v3 (a b c : Wd) : Value := q3 a b c
def qv (x : Q4) : Value := q4 x.a x.b x.c x.d
def qI (a b c d : Int) : Value := .agg #[.int .i32 a, .int .i32 b, .int .i32 c, .int .i32 d]
theorem goodC_qv (x : Q4) : goodC (qv x) := goodC_q4 _ _ _ _
def negK (a : Int) : Int := (negW (kW a)).v
def in4 (a b c d : Wd) : List Value := [.int .i32 a.v, .int .i32 b.v, .int .i32 c.v, .int .i32 d.v]
def in7 (a b c d x y z : Wd) : List Value := [.int .i32 a.v, .int .i32 b.v, .int .i32 c.v, .int .i32 d.v, .int .i32 x.v, .int .i32 y.v, .int .i32 z.v]
def in8 (a b c d x y z t : Wd) : List Value := [.int .i32 a.v, .int .i32 b.v, .int .i32 c.v, .int .i32 d.v, .int .i32 x.v, .int .i32 y.v, .int .i32 z.v, .int .i32 t.v]
theorem ins4 (a b c d : Wd) : goodL (in4 a b c d) := goodL_l [a, b, c, d]
theorem ins7 (a b c d x y z : Wd) : goodL (in7 a b c d x y z) := goodL_l [a, b, c, d, x, y, z]
theorem ins8 (a b c d x y z t : Wd) : goodL (in8 a b c d x y z t) := goodL_l [a, b, c, d, x, y, z, t]
def wS : List (FuncId × Sh) := [(129, .one), (58, .one), (62, .one), (114, .one), (37, .one)]
noncomputable def wT : List Ent := [mulqE, addE, subE, negE, sarE]
set_option maxRecDepth 100000 in
theorem qnorm_run (a b c d : Wd) : runP (cxR [] wS []) (tabOf wT) 300 116 [.agg (opqs 4 0)] (in4 a b c d) = some (.int .i32 (addK (addK (addK (mulK a.v a.v) (mulK b.v b.v)) (mulK c.v c.v)) (mulK d.v d.v)), []) := by kernel_rfl
theorem refQNorm (a b c d : Wd) (w : World) : Calls Tryz.prog 116 #[q4 a b c d] w fun e w' => e = .returned (.int .i32 (normW a [b, c, d]).v) ∧ Chg w w' [] := by
 have h := cxR_calls _ (qnorm_run a b c d) (ins4 a b c d) obs0 w
 unfold addK mulK at h
 simp only [kW_self] at h
 exact h
noncomputable def qnormE : Ent := entQ 116 (fun a b c d => .int .i32 (normW a [b, c, d]).v) (fun _ _ _ _ => goodC_w _) refQNorm
set_option maxRecDepth 100000 in
theorem conj_run (a b c d : Wd) : runP (cxR [] wS []) (tabOf wT) 300 113 [.agg (opqs 4 0)] (in4 a b c d) = some (qI a.v (negK b.v) (negK c.v) (negK d.v), []) := by kernel_rfl
theorem refConj (a b c d : Wd) (w : World) : Calls Tryz.prog 113 #[q4 a b c d] w fun e w' => e = .returned (q4 a (negW b) (negW c) (negW d)) ∧ Chg w w' [] := by
 have h := cxR_calls _ (conj_run a b c d) (ins4 a b c d) obs0 w
 unfold negK at h
 simp only [kW_self] at h
 exact h
noncomputable def conjE : Ent := entQ 113 (fun a b c d => q4 a (negW b) (negW c) (negW d)) (fun _ _ _ _ => goodC_q4 _ _ _ _) refConj
def timesK (p0 p1 p2 p3 q0 q1 q2 q3 : Int) : Value := qI
 (subK (subK (subK (mulK p0 q0) (mulK p1 q1)) (mulK p2 q2)) (mulK p3 q3))
 (subK (addK (addK (mulK p0 q1) (mulK p1 q0)) (mulK p2 q3)) (mulK p3 q2))
 (addK (addK (subK (mulK p0 q2) (mulK p1 q3)) (mulK p2 q0)) (mulK p3 q1))
 (addK (subK (addK (mulK p0 q3) (mulK p1 q2)) (mulK p2 q1)) (mulK p3 q0))
set_option maxRecDepth 100000 in
theorem times_run (p0 p1 p2 p3 q0 q1 q2 q3 : Wd) : runP (cxR [] wS []) (tabOf wT) 300 112 [.agg (opqs 4 0), .agg (opqs 4 4)] (in8 p0 p1 p2 p3 q0 q1 q2 q3) = some (timesK p0.v p1.v p2.v p3.v q0.v q1.v q2.v q3.v, []) := by kernel_rfl
theorem refTimes (p0 p1 p2 p3 q0 q1 q2 q3 : Wd) (w : World) : Calls Tryz.prog 112 #[q4 p0 p1 p2 p3, q4 q0 q1 q2 q3] w fun e w' => e = .returned (qv (timesW p0 p1 p2 p3 q0 q1 q2 q3)) ∧ Chg w w' [] := by
 have h := cxR_calls _ (times_run p0 p1 p2 p3 q0 q1 q2 q3) (ins8 p0 p1 p2 p3 q0 q1 q2 q3) obs0 w
 unfold timesK addK subK mulK at h
 simp only [kW_self] at h
 exact h
noncomputable def timesE : Ent := entQQ 112 (fun a b c d x y z t => qv (timesW a b c d x y z t)) (fun _ _ _ _ _ _ _ _ => goodC_qv _) refTimes
def rateK (q0 q1 q2 q3 w0 w1 w2 : Int) : Value := qI
 (subK (subK (subK 0 (mulK q1 w0)) (mulK q2 w1)) (mulK q3 w2))
 (subK (addK (mulK q0 w0) (mulK q2 w2)) (mulK q3 w1))
 (addK (subK (mulK q0 w1) (mulK q1 w2)) (mulK q3 w0))
 (subK (addK (mulK q0 w2) (mulK q1 w1)) (mulK q2 w0))
set_option maxRecDepth 100000 in
theorem rate_run (q0 q1 q2 q3 w0 w1 w2 : Wd) : runP (cxR [] wS []) (tabOf wT) 300 53 [.agg (opqs 4 0), .agg (opqs 3 4)] (in7 q0 q1 q2 q3 w0 w1 w2) = some (rateK q0.v q1.v q2.v q3.v w0.v w1.v w2.v, []) := by kernel_rfl
theorem refRate (q0 q1 q2 q3 w0 w1 w2 : Wd) (w : World) : Calls Tryz.prog 53 #[q4 q0 q1 q2 q3, v3 w0 w1 w2] w fun e w' => e = .returned (qv (rateW q0 q1 q2 q3 w0 w1 w2)) ∧ Chg w w' [] := by
 have h := cxR_calls _ (rate_run q0 q1 q2 q3 w0 w1 w2) (ins7 q0 q1 q2 q3 w0 w1 w2) obs0 w
 unfold rateK addK subK mulK at h
 simp only [kW_self] at h
 exact h
noncomputable def rateE : Ent := entQV 53 (fun a b c d x y z => qv (rateW a b c d x y z)) (fun _ _ _ _ _ _ _ => goodC_qv _) refRate
def imF0 (q0 q1 q2 q3 a : Int) : Int := subK (subK (mulK q1 q3) (mulK q0 q2)) (sarK a 1)
def imF1 (q0 q1 q2 q3 a : Int) : Int := subK (addK (mulK q0 q1) (mulK q2 q3)) (sarK a 1)
def imF2 (q1 q2 a : Int) : Int := subK (subK (subK 536870912 (mulK q1 q1)) (mulK q2 q2)) (sarK a 1)
def imK (q0 q1 q2 q3 f0 f1 f2 : Int) : Value := qI (sarK (subK (mulK q1 f1) (mulK q2 f0)) 1) (subK (sarK (addK (mulK q3 f0) (mulK q0 f1)) 1) (mulK q1 f2)) (subK (sarK (subK (mulK q3 f1) (mulK q0 f0)) 1) (mulK q2 f2)) (sarK (addK (mulK q1 f0) (mulK q2 f1)) 1)
set_option maxRecDepth 100000 in
theorem imu_run (q0 q1 q2 q3 a0 a1 a2 : Wd) : runP (cxR [] wS []) (tabOf wT) 300 54 [.agg (opqs 4 0), .agg (opqs 3 4)] (in7 q0 q1 q2 q3 a0 a1 a2) = some (imK q0.v q1.v q2.v q3.v (imF0 q0.v q1.v q2.v q3.v a0.v) (imF1 q0.v q1.v q2.v q3.v a1.v) (imF2 q1.v q2.v a2.v), []) := by kernel_rfl
theorem refImu (q0 q1 q2 q3 a0 a1 a2 : Wd) (w : World) : Calls Tryz.prog 54 #[q4 q0 q1 q2 q3, v3 a0 a1 a2] w fun e w' => e = .returned (qv (pullW q0 q1 q2 q3 a0 a1 a2)) ∧ Chg w w' [] := by
 have h := cxR_calls _ (imu_run q0 q1 q2 q3 a0 a1 a2) (ins7 q0 q1 q2 q3 a0 a1 a2) obs0 w
 have e0 : imF0 q0.v q1.v q2.v q3.v a0.v = (pullF0 q0 q1 q2 q3 a0).v := by
  unfold imF0 subK mulK sarK pullF0; simp only [kW_self]; rw [down_eq _ (by decide : In32 1)]; rfl
 have e1 : imF1 q0.v q1.v q2.v q3.v a1.v = (pullF1 q0 q1 q2 q3 a1).v := by
  unfold imF1 subK addK mulK sarK pullF1; simp only [kW_self]; rw [down_eq _ (by decide : In32 1)]; rfl
 have e2 : imF2 q1.v q2.v a2.v = (pullF2 q1 q2 a2).v := by
  unfold imF2 subK mulK sarK pullF2; simp only [kW_self]; rw [down_eq _ (by decide : In32 1)]; rfl
 rw [e0, e1, e2] at h
 have e : qv (pullW q0 q1 q2 q3 a0 a1 a2) = imK q0.v q1.v q2.v q3.v (pullF0 q0 q1 q2 q3 a0).v (pullF1 q0 q1 q2 q3 a1).v (pullF2 q1 q2 a2).v := by
  unfold pullW
  generalize pullF0 q0 q1 q2 q3 a0 = f0
  generalize pullF1 q0 q1 q2 q3 a1 = f1
  generalize pullF2 q1 q2 a2 = f2
  unfold imK pullOf subK addK mulK sarK
  simp only [kW_self]
  rw [down_eq _ (by decide : In32 1), down_eq _ (by decide : In32 1), down_eq _ (by decide : In32 1), down_eq _ (by decide : In32 1)]
  rfl
 rw [e]
 exact h
def evS : List (FuncId × Sh) := [(116, .one), (58, .one), (108, .two .one .one), (110, .one)]
noncomputable def evT : List Ent := [qnormE, addE, rsqrtE, scaleE]
def evN (a b c d : Int) : Wd := kW (addK (normW (kW a) [kW b, kW c, kW d]).v 1024)
def evP (a b c d x : Int) : Int := scK x (rootW (evN a b c d)).1.v (rootW (evN a b c d)).2.v
set_option maxRecDepth 100000 in
theorem dunit_run (a b c d : Wd) : runP (cxR [] evS []) (tabOf evT) 300 59 [.agg (opqs 4 0)] (in4 a b c d) = some (qI (evP a.v b.v c.v d.v a.v) (evP a.v b.v c.v d.v b.v) (evP a.v b.v c.v d.v c.v) (evP a.v b.v c.v d.v d.v), []) := by kernel_rfl
theorem refDUnit (a b c d : Wd) (w : World) : Calls Tryz.prog 59 #[q4 a b c d] w fun e w' => e = .returned (qv (evenW a b c d)) ∧ Chg w w' [] := by
 have h := cxR_calls _ (dunit_run a b c d) (ins4 a b c d) obs0 w
 unfold evP evN scK addK at h
 simp only [kW_self] at h
 exact h
def mgR (q0 q1 q2 q3 f0 f1 f2 : Int) : Q4 := rateW (kW q0) (kW q1) (kW q2) (kW q3) (kW f0) (kW f1) (kW f2)
def mgH (r : Q4) (q0 q1 q2 q3 : Int) : Q4 := timesW (kW r.a.v) (kW r.b.v) (kW r.c.v) (kW r.d.v) (kW (kW q0).v) (kW (negK q1)) (kW (negK q2)) (kW (negK q3))
def mgB (h : Q4) : Int := (sqrtW (kW (addK (mulK h.b.v h.b.v) (mulK h.c.v h.c.v)))).v
def mgE0 (q0 q1 q2 q3 bx bz f : Int) : Int := subK (addK (mulK bx (subK (subK 536870912 (mulK q2 q2)) (mulK q3 q3))) (mulK bz (subK (mulK q1 q3) (mulK q0 q2)))) (sarK f 1)
def mgE1 (q0 q1 q2 q3 bx bz f : Int) : Int := subK (addK (mulK bx (subK (mulK q1 q2) (mulK q0 q3))) (mulK bz (addK (mulK q0 q1) (mulK q2 q3)))) (sarK f 1)
def mgE2 (q0 q1 q2 q3 bx bz f : Int) : Int := subK (addK (mulK bx (addK (mulK q0 q2) (mulK q1 q3))) (mulK bz (subK (subK 536870912 (mulK q1 q1)) (mulK q2 q2)))) (sarK f 1)
def sumK (a b c e0 e1 e2 : Int) : Int := sarK (addK (addK (mulK a e0) (mulK b e1)) (mulK c e2)) 1
def mgOf (x0 x1 x2 x3 y0 y1 y2 y3 e0 e1 e2 : Int) : Value := qI
 (sumK (negK y2) (subK y1 x3) x2 e0 e1 e2)
 (sumK y3 (addK x2 y0) (subK (subK x3 y1) y1) e0 e1 e2)
 (sumK (negK (addK (addK x2 x2) y0)) (addK x1 y3) (subK (subK x0 y2) y2) e0 e1 e2)
 (sumK (subK (subK y1 x3) x3) (subK y2 x0) x1 e0 e1 e2)
def mgK (q0 q1 q2 q3 f0 f1 f2 bx bz : Int) : Value := mgOf (mulK bx q0) (mulK bx q1) (mulK bx q2) (mulK bx q3) (mulK bz q0) (mulK bz q1) (mulK bz q2) (mulK bz q3) (mgE0 q0 q1 q2 q3 bx bz f0) (mgE1 q0 q1 q2 q3 bx bz f1) (mgE2 q0 q1 q2 q3 bx bz f2)
def mgAll (q0 q1 q2 q3 f0 f1 f2 : Int) (h : Q4) : Value := mgK q0 q1 q2 q3 f0 f1 f2 (mgB h) h.d.v
def mgS : List (FuncId × Sh) := (53, .agg 4) :: (112, .agg 4) :: (113, .agg 4) :: (72, .one) :: wS
noncomputable def mgT : List Ent := rateE :: timesE :: conjE :: sqrtE :: wT
set_option maxRecDepth 100000 in
theorem mag_run (q0 q1 q2 q3 f0 f1 f2 : Wd) : runP (cxR [] mgS []) (tabOf mgT) 400 57 [.agg (opqs 4 0), .agg (opqs 3 4)] (in7 q0 q1 q2 q3 f0 f1 f2) = some (mgAll q0.v q1.v q2.v q3.v f0.v f1.v f2.v (mgH (mgR q0.v q1.v q2.v q3.v f0.v f1.v f2.v) q0.v q1.v q2.v q3.v), []) := by kernel_rfl
theorem mgOf_eq (x y : Q4) (e : T3) : mgOf x.a.v x.b.v x.c.v x.d.v y.a.v y.b.v y.c.v y.d.v e.a.v e.b.v e.c.v = qv (Go.Proofs.YtihgijhjhmjolaaGreatDoor.fieldOf x y e) := by
 unfold mgOf sumK negK subK addK mulK sarK Go.Proofs.YtihgijhjhmjolaaGreatDoor.fieldOf sumW
 simp only [kW_self]
 rw [down_eq _ (by decide : In32 1), down_eq _ (by decide : In32 1), down_eq _ (by decide : In32 1), down_eq _ (by decide : In32 1)]
 rfl
theorem mgErr (q0 q1 q2 q3 bx bz f0 f1 f2 : Wd) : mgE0 q0.v q1.v q2.v q3.v bx.v bz.v f0.v = (errorsW q0 q1 q2 q3 bx bz f0 f1 f2).a.v ∧ mgE1 q0.v q1.v q2.v q3.v bx.v bz.v f1.v = (errorsW q0 q1 q2 q3 bx bz f0 f1 f2).b.v ∧ mgE2 q0.v q1.v q2.v q3.v bx.v bz.v f2.v = (errorsW q0 q1 q2 q3 bx bz f0 f1 f2).c.v := by
 unfold mgE0 mgE1 mgE2 subK addK mulK sarK errorsW
 simp only [kW_self]
 rw [down_eq f0 (by decide : In32 1), down_eq f1 (by decide : In32 1), down_eq f2 (by decide : In32 1)]
 exact ⟨rfl, rfl, rfl⟩
theorem mul_K (a b : Wd) : mulK a.v b.v = (mulqW a b).v := by unfold mulK; rw [kW_self, kW_self]
theorem mgK_eq (q0 q1 q2 q3 f0 f1 f2 bx bz : Wd) : mgK q0.v q1.v q2.v q3.v f0.v f1.v f2.v bx.v bz.v = qv (Go.Proofs.YtihgijhjhmjolaaGreatDoor.fieldOf ⟨mulqW bx q0, mulqW bx q1, mulqW bx q2, mulqW bx q3⟩ ⟨mulqW bz q0, mulqW bz q1, mulqW bz q2, mulqW bz q3⟩ (errorsW q0 q1 q2 q3 bx bz f0 f1 f2)) := by
 obtain ⟨e0, e1, e2⟩ := mgErr q0 q1 q2 q3 bx bz f0 f1 f2
 rw [← mgOf_eq]
 unfold mgK
 rw [e0, e1, e2]
 simp only [mul_K]
theorem mgH_eq (q0 q1 q2 q3 f0 f1 f2 : Wd) : mgH (mgR q0.v q1.v q2.v q3.v f0.v f1.v f2.v) q0.v q1.v q2.v q3.v = fieldH q0 q1 q2 q3 f0 f1 f2 := by
 unfold mgH mgR negK fieldH
 simp only [kW_self]
theorem mgB_eq (h : Q4) : mgB h = (sqrtW (normW h.b [h.c])).v := by
 unfold mgB addK mulK
 simp only [kW_self]
 rfl
theorem refDMag (q0 q1 q2 q3 f0 f1 f2 : Wd) (w : World) : Calls Tryz.prog 57 #[q4 q0 q1 q2 q3, v3 f0 f1 f2] w fun e w' => e = .returned (qv (fieldW q0 q1 q2 q3 f0 f1 f2)) ∧ Chg w w' [] := by
 have h := cxR_calls _ (mag_run q0 q1 q2 q3 f0 f1 f2) (ins7 q0 q1 q2 q3 f0 f1 f2) obs0 w
 have e : mgAll q0.v q1.v q2.v q3.v f0.v f1.v f2.v (mgH (mgR q0.v q1.v q2.v q3.v f0.v f1.v f2.v) q0.v q1.v q2.v q3.v) = qv (fieldW q0 q1 q2 q3 f0 f1 f2) := by
  unfold mgAll
  rw [mgH_eq, mgB_eq]
  have e2 : (fieldH q0 q1 q2 q3 f0 f1 f2).d = fieldZ q0 q1 q2 q3 f0 f1 f2 := rfl
  have e3 : sqrtW (normW (fieldH q0 q1 q2 q3 f0 f1 f2).b [(fieldH q0 q1 q2 q3 f0 f1 f2).c]) = fieldB q0 q1 q2 q3 f0 f1 f2 := rfl
  rw [e2, e3, mgK_eq]
  unfold fieldW fieldX fieldY fieldE
  rfl
 rw [e] at h
 exact h
end Go.Proofs.YtihgijhjhmjolaaGreatDoor.Xi

/- Layer 9: the reference's turns and angles are the program's. -/
namespace Go.Proofs.YtihgijhjhmjolaaGreatDoor.Xi
open Go Go.RowKit
set_option linter.unusedVariables false
def flipK (a b : Int) : Int := (flipW (kW a) (kW b)).v
def signK (a : Int) : Int := (signW (kW a)).v
def W64 (a : Int) : Int := IntKind.i64.wrap a
structure I3 where
 x : Int
 y : Int
 a : Int
def tabI (i : Nat) : Int := ([421657428, 248918915, 131521918, 66762579, 33510843, 16771758, 8387925, 4194219, 2097141, 1048575, 524288, 262144, 131072, 65536, 32768, 16384, 8192, 4096, 2048, 1024, 512, 256, 128, 64, 32, 16, 8, 4] : List Int).getD i 0
def vecS (i : Nat) (s : I3) : I3 := ⟨(kW (W64 (W64 s.x + W64 (flipK (sarK s.y (Int.ofNat i)) (signK s.y))))).v, (kW (W64 (W64 s.y - W64 (flipK (sarK s.x (Int.ofNat i)) (signK s.y))))).v, (kW (W64 (W64 s.a + W64 (flipK (tabI i) (signK s.y))))).v⟩
def vec (x y : Int) : Nat → I3
 | 0 => ⟨x, y, 0⟩
 | i + 1 => vecS i (vec x y i)
def vS : List (FuncId × Sh) := [(174, .one), (175, .one), (37, .one), (79, .one)]
noncomputable def vT : List Ent := [signE, flipE, sarE, lowE]
set_option maxRecDepth 100000 in
theorem vector_run (y x : Wd) : runP (cxR [] vS []) (tabOf vT) 400 133 [.opq 0, .opq 1] [.int .i32 y.v, .int .i32 x.v] = some (.tuple #[.int .i32 (vec x.v y.v 28).x, .int .i32 (vec x.v y.v 28).y, .int .i32 (vec x.v y.v 28).a], []) := by kernel_rfl
theorem k_add (a b : Wd) : (kW (W64 (W64 a.v + W64 b.v))).v = (addW a b).v := by
 have ha := a.ok
 have hb := b.ok
 unfold In32 at ha hb
 unfold W64
 rw [w64, w64]
 show wrap32 (IntKind.i64.wrap (a.v + b.v)) = wrap32 (a.v + b.v)
 rw [show IntKind.i64.wrap (a.v + b.v) = a.v + b.v by rw [IntKind.wrap_i64]; omega]
theorem k_sub (a b : Wd) : (kW (W64 (W64 a.v - W64 b.v))).v = (subW a b).v := by
 have ha := a.ok
 have hb := b.ok
 unfold In32 at ha hb
 unfold W64
 rw [w64, w64]
 show wrap32 (IntKind.i64.wrap (a.v - b.v)) = wrap32 (a.v - b.v)
 rw [show IntKind.i64.wrap (a.v - b.v) = a.v - b.v by rw [IntKind.wrap_i64]; omega]
theorem tab_all : ∀ i : Fin 28, (kW (tabI i.val)).v = (turnsL.getD i.val (kW 0)).v := by decide +kernel
theorem vec_eq (x y : Wd) : ∀ n, n ≤ 28 → vec x.v y.v n = ⟨(turnW x y n).a.v, (turnW x y n).b.v, (turnW x y n).c.v⟩
 | 0, _ => by
  show I3.mk x.v y.v 0 = ⟨x.v, y.v, (kW 0).v⟩
  rw [kW_v (by decide : In32 0)]
 | n + 1, h => by
  have ht : kW (tabI n) = turnsL.getD n (kW 0) := Wd.ext_ (tab_all ⟨n, by omega⟩)
  rw [vec, vec_eq x y n (by omega), turnW]
  generalize turnW x y n = s
  unfold vecS turnStep flipK sarK signK
  simp only [kW_self, ht, Int.ofNat_eq_natCast]
  rw [k_add, k_sub, k_add]
theorem goodC_3 (a b c : Wd) : goodC (.tuple #[.int .i32 a.v, .int .i32 b.v, .int .i32 c.v]) := .inr ⟨_, rfl, fun u hu => by
 simp at hu
 rcases hu with rfl | rfl | rfl
 · exact .inl (good_w _)
 · exact .inl (good_w _)
 · exact .inl (good_w _)⟩
def t3v (t : T3) : Value := .tuple #[.int .i32 t.a.v, .int .i32 t.b.v, .int .i32 t.c.v]
theorem refVector (y x : Wd) (w : World) : Calls Tryz.prog 133 #[.int .i32 y.v, .int .i32 x.v] w fun e w' => e = .returned (t3v (turnW x y 28)) ∧ Chg w w' [] := by
 have h := cxR_calls _ (vector_run y x) (good_2 y x) obs0 w
 rw [vec_eq x y 28 (by omega)] at h
 exact h
noncomputable def vectorE : Ent := ent2 133 (fun y x => t3v (turnW x y 28)) (fun _ _ => goodC_3 _ _ _) refVector
def absK (a : Int) : Int := (absW (kW a)).v
def maxK (a b : Int) : Int := (maxW (kW a) (kW b)).v
def minK (a b : Int) : Int := (minW (kW a) (kW b)).v
def agS (y x : Int) : Int := IntKind.i32.wrap ((clzW (kW (maxK (absK x) (absK y)))).v - 1)
def agL (v s : Int) : Int := shrK (shlK v s) 2
def agA (y x : Int) : Int := (turnW (kW (agL (maxK (absK x) (absK y)) (agS y x))) (kW (agL (minK (absK x) (absK y)) (agS y x))) 28).c.v
def lowS (k a : Int) : Int := (kW (W64 (k - W64 a))).v
def aS : List (FuncId × Sh) := [(73, .one), (130, .one), (131, .one), (132, .one), (52, .one), (134, .one), (133, .three .one .one .one), (79, .one)]
noncomputable def aT : List Ent := [absE, maxE, minE, clzE, shlE, shrE, vectorE, lowE]
set_option maxRecDepth 100000 in
theorem angle_run111 (y x : Wd) : runP (cxR [] aS [(15, true), (19, true), (23, true)]) (tabOf aT) 200 71 [.opq 0, .opq 1] [.int .i32 y.v, .int .i32 x.v] = some (.int .i32 (lowS 0 (lowS 1686629713 (lowS 843314857 (agA y.v x.v)))), [oLss 21 .i32 y.v 0 true, oLss 21 .i32 x.v 0 true, oLss 21 .i32 (absK x.v) (absK y.v) true]) := by kernel_rfl
set_option maxRecDepth 100000 in
theorem angle_run110 (y x : Wd) : runP (cxR [] aS [(15, true), (19, true), (23, false)]) (tabOf aT) 200 71 [.opq 0, .opq 1] [.int .i32 y.v, .int .i32 x.v] = some (.int .i32 (lowS 1686629713 (lowS 843314857 (agA y.v x.v))), [oLss 21 .i32 y.v 0 false, oLss 21 .i32 x.v 0 true, oLss 21 .i32 (absK x.v) (absK y.v) true]) := by kernel_rfl
set_option maxRecDepth 100000 in
theorem angle_run101 (y x : Wd) : runP (cxR [] aS [(15, true), (19, false), (20, true)]) (tabOf aT) 200 71 [.opq 0, .opq 1] [.int .i32 y.v, .int .i32 x.v] = some (.int .i32 (lowS 0 (lowS 843314857 (agA y.v x.v))), [oLss 21 .i32 y.v 0 true, oLss 21 .i32 x.v 0 false, oLss 21 .i32 (absK x.v) (absK y.v) true]) := by kernel_rfl
set_option maxRecDepth 100000 in
theorem angle_run100 (y x : Wd) : runP (cxR [] aS [(15, true), (19, false), (20, false)]) (tabOf aT) 200 71 [.opq 0, .opq 1] [.int .i32 y.v, .int .i32 x.v] = some (.int .i32 (lowS 843314857 (agA y.v x.v)), [oLss 21 .i32 y.v 0 false, oLss 21 .i32 x.v 0 false, oLss 21 .i32 (absK x.v) (absK y.v) true]) := by kernel_rfl
set_option maxRecDepth 100000 in
theorem angle_run011 (y x : Wd) : runP (cxR [] aS [(15, false), (16, true), (20, true)]) (tabOf aT) 200 71 [.opq 0, .opq 1] [.int .i32 y.v, .int .i32 x.v] = some (.int .i32 (lowS 0 (lowS 1686629713 (agA y.v x.v))), [oLss 21 .i32 y.v 0 true, oLss 21 .i32 x.v 0 true, oLss 21 .i32 (absK x.v) (absK y.v) false]) := by kernel_rfl
set_option maxRecDepth 100000 in
theorem angle_run010 (y x : Wd) : runP (cxR [] aS [(15, false), (16, true), (20, false)]) (tabOf aT) 200 71 [.opq 0, .opq 1] [.int .i32 y.v, .int .i32 x.v] = some (.int .i32 (lowS 1686629713 (agA y.v x.v)), [oLss 21 .i32 y.v 0 false, oLss 21 .i32 x.v 0 true, oLss 21 .i32 (absK x.v) (absK y.v) false]) := by kernel_rfl
set_option maxRecDepth 100000 in
theorem angle_run001 (y x : Wd) : runP (cxR [] aS [(15, false), (16, false), (17, true)]) (tabOf aT) 200 71 [.opq 0, .opq 1] [.int .i32 y.v, .int .i32 x.v] = some (.int .i32 (lowS 0 (agA y.v x.v)), [oLss 21 .i32 y.v 0 true, oLss 21 .i32 x.v 0 false, oLss 21 .i32 (absK x.v) (absK y.v) false]) := by kernel_rfl
set_option maxRecDepth 100000 in
theorem angle_run000 (y x : Wd) : runP (cxR [] aS [(15, false), (16, false), (17, false)]) (tabOf aT) 200 71 [.opq 0, .opq 1] [.int .i32 y.v, .int .i32 x.v] = some (.int .i32 (agA y.v x.v), [oLss 21 .i32 y.v 0 false, oLss 21 .i32 x.v 0 false, oLss 21 .i32 (absK x.v) (absK y.v) false]) := by kernel_rfl
theorem agA_eq (y x : Wd) : agA y.v x.v = (angleA y x).c.v := by
 have e : kW (agS y.v x.v) = subW (clzW (maxW (absW x) (absW y))) (kW 1) := by
  unfold agS maxK absK
  simp only [kW_self]
  apply Wd.ext_
  show wrap32 (IntKind.i32.wrap _) = wrap32 (_ - (kW 1).v)
  rw [kW_v (by decide : In32 1), IntKind.wrap_i32]
  unfold wrap32
  omega
 unfold agA agL shrK shlK
 rw [e]
 unfold maxK minK absK
 simp only [kW_self]
 rfl
theorem lowS_eq {k : Int} (hk : In32 k) (a : Wd) : lowS k a.v = (subW (kW k) a).v := by
 have e := k_sub (kW k) a
 rw [kW_v hk] at e
 have hw : W64 k = k := by unfold W64; rw [← kW_v hk]; exact w64 _
 rw [hw] at e
 exact e
theorem flip_neg (a : Wd) : flipW a (kW (-1)) = subW (kW 0) a := Wd.ext_ (by
 have ok := a.ok
 unfold In32 at ok
 show subI (xorI a.v (kW (-1)).v) (kW (-1)).v = subI (kW 0).v a.v
 rw [kW_v (by decide : In32 (-1)), kW_v (by decide : In32 0), xor_all a.ok]
 unfold subI
 congr 1
 omega)
theorem refAngle (y x : Wd) (w : World) : Calls Tryz.prog 71 #[.int .i32 y.v, .int .i32 x.v] w fun e w' => e = .returned (.int .i32 (angleW y x).v) ∧ Chg w w' [] := by
 have i1 : In32 843314857 := by decide
 have i2 : In32 1686629713 := by decide
 have i3 : In32 0 := by decide
 have ka : absK x.v = (absW x).v := by unfold absK; rw [kW_self]
 have kb : absK y.v = (absW y).v := by unfold absK; rw [kW_self]
 unfold angleW angleC angleCof angleB angleBof
 by_cases h1 : (absW x).v < (absW y).v
 · rw [slt_yes h1, sel_all]
   by_cases h2 : x.v < 0
   · rw [sign_neg h2, sel_all]
     by_cases h3 : y.v < 0
     · rw [sign_neg h3, flip_neg]
       have h := cxR_calls _ (angle_run111 y x) (good_2 y x) (obsC (oLss_ok (by simpa using h3)) (obsC (oLss_ok (by simpa using h2)) (obs1 (oLss_ok (by rw [ka, kb]; simpa using h1))))) w
       rw [agA_eq, lowS_eq i1, lowS_eq i2, lowS_eq i3] at h
       exact h
     · rw [sign_pos (by omega : 0 ≤ y.v), flip_none]
       have h := cxR_calls _ (angle_run110 y x) (good_2 y x) (obsC (oLss_ok (by simpa using h3)) (obsC (oLss_ok (by simpa using h2)) (obs1 (oLss_ok (by rw [ka, kb]; simpa using h1))))) w
       rw [agA_eq, lowS_eq i1, lowS_eq i2] at h
       exact h
   · rw [sign_pos (by omega : 0 ≤ x.v), sel_none]
     by_cases h3 : y.v < 0
     · rw [sign_neg h3, flip_neg]
       have h := cxR_calls _ (angle_run101 y x) (good_2 y x) (obsC (oLss_ok (by simpa using h3)) (obsC (oLss_ok (by simpa using h2)) (obs1 (oLss_ok (by rw [ka, kb]; simpa using h1))))) w
       rw [agA_eq, lowS_eq i1, lowS_eq i3] at h
       exact h
     · rw [sign_pos (by omega : 0 ≤ y.v), flip_none]
       have h := cxR_calls _ (angle_run100 y x) (good_2 y x) (obsC (oLss_ok (by simpa using h3)) (obsC (oLss_ok (by simpa using h2)) (obs1 (oLss_ok (by rw [ka, kb]; simpa using h1))))) w
       rw [agA_eq, lowS_eq i1] at h
       exact h
 · rw [slt_no (by omega), sel_none]
   by_cases h2 : x.v < 0
   · rw [sign_neg h2, sel_all]
     by_cases h3 : y.v < 0
     · rw [sign_neg h3, flip_neg]
       have h := cxR_calls _ (angle_run011 y x) (good_2 y x) (obsC (oLss_ok (by simpa using h3)) (obsC (oLss_ok (by simpa using h2)) (obs1 (oLss_ok (by rw [ka, kb]; simpa using h1))))) w
       rw [agA_eq, lowS_eq i2, lowS_eq i3] at h
       exact h
     · rw [sign_pos (by omega : 0 ≤ y.v), flip_none]
       have h := cxR_calls _ (angle_run010 y x) (good_2 y x) (obsC (oLss_ok (by simpa using h3)) (obsC (oLss_ok (by simpa using h2)) (obs1 (oLss_ok (by rw [ka, kb]; simpa using h1))))) w
       rw [agA_eq, lowS_eq i2] at h
       exact h
   · rw [sign_pos (by omega : 0 ≤ x.v), sel_none]
     by_cases h3 : y.v < 0
     · rw [sign_neg h3, flip_neg]
       have h := cxR_calls _ (angle_run001 y x) (good_2 y x) (obsC (oLss_ok (by simpa using h3)) (obsC (oLss_ok (by simpa using h2)) (obs1 (oLss_ok (by rw [ka, kb]; simpa using h1))))) w
       rw [agA_eq, lowS_eq i3] at h
       exact h
     · rw [sign_pos (by omega : 0 ≤ y.v), flip_none]
       have h := cxR_calls _ (angle_run000 y x) (good_2 y x) (obsC (oLss_ok (by simpa using h3)) (obsC (oLss_ok (by simpa using h2)) (obs1 (oLss_ok (by rw [ka, kb]; simpa using h1))))) w
       rw [agA_eq] at h
       exact h
noncomputable def angleE : Ent := ent2 71 (fun y x => .int .i32 (angleW y x).v) (fun _ _ => goodC_w _) refAngle
end Go.Proofs.YtihgijhjhmjolaaGreatDoor.Xi
