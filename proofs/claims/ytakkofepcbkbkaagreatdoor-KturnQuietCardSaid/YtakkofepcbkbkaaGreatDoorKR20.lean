/- Texts of this claim, side by side: RunE, RunF, RunJK. -/
import Derived.Test.YtakkofepcbkbkaaGreatDoorKR19
import Derived.Lib.ItoaNum
import Derived.Test.YtakkofepcbkbkaaGreatDoorKR8
/- The reference's signs, picks, counts: Sign, Min, Max, Clamp, Flip, Clz. -/
namespace Go.Proofs.YtakkofepcbkbkaaGreatDoor.Xi
open Go Go.RowKit
set_option linter.unusedVariables false
set_option maxRecDepth 100000 in
theorem sign_run0 (a : Wd) : runP (cxR [] [] [(1, true)]) (tabOf []) 100 127 [.opq 0] [.int .i32 a.v] = some (.int .i32 (-1), [oLss 21 .i32 a.v 0 true]) := by kernel_rfl
set_option maxRecDepth 100000 in
theorem sign_run1 (a : Wd) : runP (cxR [] [] [(1, false)]) (tabOf []) 100 127 [.opq 0] [.int .i32 a.v] = some (.int .i32 0, [oLss 21 .i32 a.v 0 false]) := by kernel_rfl
theorem refSign (a : Wd) (w : World) : Calls Tryz.prog 127 #[.int .i32 a.v] w fun e w' => e = .returned (.int .i32 (signW a).v) ∧ Chg w w' [] := by
 have ha := a.ok
 unfold In32 at ha
 have hv : (signW a).v = a.v / 2147483648 := rfl
 rw [hv]
 by_cases h0 : a.v < 0
 · rw [show a.v / 2147483648 = -1 by omega]
   exact cxR_calls _ (sign_run0 a) (ins1 a) (obs1 (oLss_ok (by simpa using h0))) w
 · rw [show a.v / 2147483648 = 0 by omega]
   exact cxR_calls _ (sign_run1 a) (ins1 a) (obs1 (oLss_ok (by simpa using h0))) w
noncomputable def signE : Ent := ent1 127 (fun a => .int .i32 (signW a).v) (fun _ => goodC_w _) refSign
set_option maxRecDepth 100000 in
theorem min_run0 (a b : Wd) : runP (cxR [] [] [(2, true)]) (tabOf []) 100 63 [.opq 0, .opq 1] [.int .i32 a.v, .int .i32 b.v] = some (.int .i32 a.v, [oLss 21 .i32 a.v b.v true]) := by kernel_rfl
set_option maxRecDepth 100000 in
theorem min_run1 (a b : Wd) : runP (cxR [] [] [(2, false)]) (tabOf []) 100 63 [.opq 0, .opq 1] [.int .i32 a.v, .int .i32 b.v] = some (.int .i32 b.v, [oLss 21 .i32 a.v b.v false]) := by kernel_rfl
theorem refMin (a b : Wd) (w : World) : Calls Tryz.prog 63 #[.int .i32 a.v, .int .i32 b.v] w fun e w' => e = .returned (.int .i32 (minW a b).v) ∧ Chg w w' [] := by
 have hv : (minW a b).v = minI a.v b.v := rfl
 by_cases h0 : a.v < b.v
 · rw [hv, show minI a.v b.v = a.v by unfold minI; first | omega | (split <;> omega)]
   exact cxR_calls _ (min_run0 a b) (good_2 a b) (obs1 (oLss_ok (by simpa using h0))) w
 · rw [hv, show minI a.v b.v = b.v by unfold minI; first | omega | (split <;> omega)]
   exact cxR_calls _ (min_run1 a b) (good_2 a b) (obs1 (oLss_ok (by simpa using h0))) w
noncomputable def minE : Ent := ent2 63 (fun a b => .int .i32 (minW a b).v) (fun _ _ => goodC_w _) refMin
set_option maxRecDepth 100000 in
theorem max_run0 (a b : Wd) : runP (cxR [] [] [(2, true)]) (tabOf []) 100 62 [.opq 0, .opq 1] [.int .i32 a.v, .int .i32 b.v] = some (.int .i32 b.v, [oLss 21 .i32 a.v b.v true]) := by kernel_rfl
set_option maxRecDepth 100000 in
theorem max_run1 (a b : Wd) : runP (cxR [] [] [(2, false)]) (tabOf []) 100 62 [.opq 0, .opq 1] [.int .i32 a.v, .int .i32 b.v] = some (.int .i32 a.v, [oLss 21 .i32 a.v b.v false]) := by kernel_rfl
theorem refMax (a b : Wd) (w : World) : Calls Tryz.prog 62 #[.int .i32 a.v, .int .i32 b.v] w fun e w' => e = .returned (.int .i32 (maxW a b).v) ∧ Chg w w' [] := by
 have hv : (maxW a b).v = maxI a.v b.v := rfl
 by_cases h0 : a.v < b.v
 · rw [hv, show maxI a.v b.v = b.v by unfold maxI; first | omega | (split <;> omega)]
   exact cxR_calls _ (max_run0 a b) (good_2 a b) (obs1 (oLss_ok (by simpa using h0))) w
 · rw [hv, show maxI a.v b.v = a.v by unfold maxI; first | omega | (split <;> omega)]
   exact cxR_calls _ (max_run1 a b) (good_2 a b) (obs1 (oLss_ok (by simpa using h0))) w
noncomputable def maxE : Ent := ent2 62 (fun a b => .int .i32 (maxW a b).v) (fun _ _ => goodC_w _) refMax
def flipL : List Int → List Int → List Int
 | b :: l, c :: m => IntKind.i64.wrap ((IntKind.i64.wrap (b + c)).tmod 2) :: flipL l m
 | _, _ => []
set_option maxRecDepth 100000 in
theorem flip_run (a m : Wd) : runP (cxR [] [(96, .agg 32), (98, .one), (67, .one)] []) (tabOf [bitsE, ofE, lowE]) 400 128 [.opq 0, .opq 1] [.int .i32 a.v, .int .i32 m.v] =
 some (.int .i32 (kW (IntKind.i64.wrap (IntKind.i64.wrap (kW (ofI (flipL (bitI ((kW a.v).v % 4294967296) 0 32) (bitI ((kW m.v).v % 4294967296) 0 32)).reverse 0)).v - IntKind.i64.wrap m.v))).v, []) := by kernel_rfl
theorem flipL_eq (Y Z : Nat) : ∀ n i, flipL (bitI Y i n) (bitI Z i n) = bitI ((Y ^^^ Z : Nat) : Int) i n
 | 0, i => rfl
 | n + 1, i => by
  simp only [bitI, flipL]
  rw [flipL_eq Y Z n (i + 1)]
  congr 1
  have h := Nat.testBit_xor Y Z i
  have c : ∀ X : Nat, ((X : Int) / 2 ^ i % 2) = ((X / 2 ^ i % 2 : Nat) : Int) := fun X => by simp
  have t : ∀ X : Nat, X.testBit i = decide (X / 2 ^ i % 2 = 1) := fun X => Nat.testBit_eq_decide_div_mod_eq
  rw [t, t, t] at h
  rw [c, c, c]
  have hy : Y / 2 ^ i % 2 = 0 ∨ Y / 2 ^ i % 2 = 1 := by omega
  have hz : Z / 2 ^ i % 2 = 0 ∨ Z / 2 ^ i % 2 = 1 := by omega
  have hr : (Y ^^^ Z) / 2 ^ i % 2 = 0 ∨ (Y ^^^ Z) / 2 ^ i % 2 = 1 := by omega
  generalize (Y ^^^ Z) / 2 ^ i % 2 = r at *
  generalize Y / 2 ^ i % 2 = y at *
  generalize Z / 2 ^ i % 2 = z at *
  rcases hy with rfl | rfl <;> rcases hz with rfl | rfl <;> rcases hr with rfl | rfl <;> first | (exfalso; revert h; decide) | decide +kernel
theorem xor_num (a m : Wd) : ∃ Y Z : Nat, a.v % 4294967296 = Y ∧ m.v % 4294967296 = Z ∧ (xorW a m).v = (kW ((Y ^^^ Z : Nat) : Int)).v ∧ Y ^^^ Z < 4294967296 := by
 refine ⟨(BitVec.ofInt 32 a.v).toNat, (BitVec.ofInt 32 m.v).toNat, ?_, ?_, ?_, ?_⟩
 · rw [BitVec.toNat_ofInt]; omega
 · rw [BitVec.toNat_ofInt]; omega
 · show IntKind.i32.wrap ((BitVec.ofInt 32 a.v ^^^ BitVec.ofInt 32 m.v).toNat : Int) = wrap32 _
   rw [BitVec.toNat_xor, IntKind.wrap_i32]; unfold wrap32; rfl
 · rw [← BitVec.toNat_xor]
   exact (BitVec.ofInt 32 a.v ^^^ BitVec.ofInt 32 m.v).isLt
theorem refFlip (a m : Wd) (w : World) : Calls Tryz.prog 128 #[.int .i32 a.v, .int .i32 m.v] w fun e w' => e = .returned (.int .i32 (flipW a m).v) ∧ Chg w w' [] := by
 have h := cxR_calls _ (flip_run a m) (good_2 a m) obs0 w
 obtain ⟨Y, Z, hY, hZ, hx, hlt⟩ := xor_num a m
 rw [kW_self, kW_self, hY, hZ, flipL_eq, ofI_num (b01_bits _ _ _) (by simp [bitI_length]), numI_bits] at h
 have e : (((Y ^^^ Z : Nat) : Int) / 2 ^ 0 % 2 ^ 32) = ((Y ^^^ Z : Nat) : Int) := by
  rw [show (2 : Int) ^ 0 = 1 from rfl, Int.ediv_one]
  omega
 have hm := m.ok
 have hq := (xorW a m).ok
 unfold In32 at hm hq
 rw [e, ← hx, w64, w64] at h
 have e2 : (kW (IntKind.i64.wrap ((xorW a m).v - m.v))).v = (flipW a m).v := by
  show wrap32 (IntKind.i64.wrap ((xorW a m).v - m.v)) = wrap32 ((xorW a m).v - m.v)
  rw [IntKind.wrap_i64]
  congr 1
  omega
 rw [e2] at h
 exact h
noncomputable def flipE : Ent := ent2 128 (fun a b => .int .i32 (flipW a b).v) (fun _ _ => goodC_w _) refFlip
def clzO (y : Int) : Nat → List Ob
 | 0 => []
 | j + 1 => oEql 2 .i64 (y / 2 ^ (31 - j) % 2) 0 true :: clzO y j
def clzB (c : Nat) : List (Nat × Bool) := (List.range c).map (fun j => (33 + j, true)) ++ [(33 + c, false)]
def clzOb (y : Int) (c : Nat) : List Ob := bif Nat.blt c 32 then oEql 2 .i64 (y / 2 ^ (31 - c) % 2) 0 false :: clzO y c else clzO y 32
set_option maxRecDepth 100000 in
theorem clz_run (a : Wd) : ∀ c : Nat, c < 33 → runP (cxR [] [(96, .agg 32)] (clzB c)) (tabOf [bitsE]) 400 64 [.opq 0] [.int .i32 a.v] = some (.int .i32 (Int.ofNat c), clzOb ((kW a.v).v % 4294967296) c)
 | 0, _ => by kernel_rfl
 | 1, _ => by kernel_rfl
 | 2, _ => by kernel_rfl
 | 3, _ => by kernel_rfl
 | 4, _ => by kernel_rfl
 | 5, _ => by kernel_rfl
 | 6, _ => by kernel_rfl
 | 7, _ => by kernel_rfl
 | 8, _ => by kernel_rfl
 | 9, _ => by kernel_rfl
 | 10, _ => by kernel_rfl
 | 11, _ => by kernel_rfl
 | 12, _ => by kernel_rfl
 | 13, _ => by kernel_rfl
 | 14, _ => by kernel_rfl
 | 15, _ => by kernel_rfl
 | 16, _ => by kernel_rfl
 | 17, _ => by kernel_rfl
 | 18, _ => by kernel_rfl
 | 19, _ => by kernel_rfl
 | 20, _ => by kernel_rfl
 | 21, _ => by kernel_rfl
 | 22, _ => by kernel_rfl
 | 23, _ => by kernel_rfl
 | 24, _ => by kernel_rfl
 | 25, _ => by kernel_rfl
 | 26, _ => by kernel_rfl
 | 27, _ => by kernel_rfl
 | 28, _ => by kernel_rfl
 | 29, _ => by kernel_rfl
 | 30, _ => by kernel_rfl
 | 31, _ => by kernel_rfl
 | 32, _ => by kernel_rfl
 | k + 33, h => absurd h (by omega)
theorem clzO_ok (y : Int) (c : Nat) (h0 : 0 ≤ y) (h : y < 2 ^ (32 - c)) : ∀ j, j ≤ c → j ≤ 32 → ∀ ob ∈ clzO y j, ObOk Tryz.prog ob
 | 0, _, _ => obs0
 | j + 1, h1, h2 => obsC (oEql_ok (by
  have hp : (2 : Int) ^ (32 - c) ≤ 2 ^ (31 - j) := by exact_mod_cast Nat.pow_le_pow_right (by omega : 1 ≤ 2) (by omega : 32 - c ≤ 31 - j)
  rw [Int.ediv_eq_zero_of_lt h0 (by omega)]; rfl)) (clzO_ok y c h0 h j (by omega) (by omega))
theorem refClz (a : Wd) (w : World) : Calls Tryz.prog 64 #[.int .i32 a.v] w fun e w' => e = .returned (.int .i32 (clzW a).v) ∧ Chg w w' [] := by
 obtain ⟨Y, hY⟩ : ∃ Y : Nat, a.v % 4294967296 = Y := ⟨(a.v % 4294967296).toNat, by omega⟩
 have hlt : Y < 4294967296 := by omega
 have hv : (clzW a).v = 32 - (Lib.bitLen Y : Int) := by show 32 - (Lib.bitLen (a.v % 4294967296).toNat : Int) = _; rw [hY, Int.toNat_natCast]
 rw [hv]
 by_cases h0 : Y = 0
 · subst h0
   have hb : Lib.bitLen 0 = 0 := Lib.bitLenAux_zero 64
   rw [hb]
   have h := cxR_calls _ (clz_run a 32 (by omega)) (ins1 a) (by
    rw [kW_self, hY]
    exact clzO_ok _ 32 (by omega) (by decide) 32 (by omega) (by omega)) w
   exact h
 · obtain ⟨l1, l2, l3⟩ := Lib.bitLenAux_bounds 64 Y (by omega) h0
   have hL : Lib.bitLenAux 64 Y = Lib.bitLen Y := rfl
   rw [hL] at l1 l2 l3
   have l4 : Lib.bitLen Y ≤ 32 := by
    rcases Nat.lt_or_ge 32 (Lib.bitLen Y) with h | h
    · have : 2 ^ 32 ≤ 2 ^ (Lib.bitLen Y - 1) := Nat.pow_le_pow_right (by omega) (by omega)
      omega
    · exact h
   generalize Lib.bitLen Y = n at *
   have h := cxR_calls _ (clz_run a (32 - n) (by omega)) (ins1 a) (by
    rw [kW_self, hY]
    unfold clzOb
    rw [show Nat.blt (32 - n) 32 = true from blt_iff.2 (by omega)]
    refine obsC (oEql_ok ?_) (clzO_ok _ (32 - n) (by omega) (by rw [show 32 - (32 - n) = n by omega]; exact_mod_cast l3) _ (by omega) (by omega))
    rw [show 31 - (32 - n) = n - 1 by omega]
    have e : (Y : Int) / 2 ^ (n - 1) = 1 := by
     have : Y / 2 ^ (n - 1) = 1 := by
      have hp : 2 ^ n = 2 * 2 ^ (n - 1) := by rw [← Nat.pow_succ']; congr 1; omega
      refine Nat.div_eq_of_lt_le (by omega) (by omega)
     rw [show (Y : Int) / 2 ^ (n - 1) = ((Y / 2 ^ (n - 1) : Nat) : Int) by simp, this]; rfl
    rw [e]; rfl) w
   have e : Int.ofNat (32 - n) = 32 - (n : Int) := by simp; omega
   rw [e] at h
   exact h
noncomputable def clzE : Ent := ent1 64 (fun a => .int .i32 (clzW a).v) (fun _ => goodC_w _) refClz
end Go.Proofs.YtakkofepcbkbkaaGreatDoor.Xi

/- Calls with lists; the reference's roots: Level, Rsqrt, Scale, Sqrt. -/
namespace Go.Proofs.YtakkofepcbkbkaaGreatDoor.Xi
open Go Go.RowKit
set_option linter.unusedVariables false
inductive PA where
 | w (x : Wd)
 | a (l : List Wd)
def PA.val : PA → Value
 | .w x => .int .i32 x.v
 | .a l => .agg (l.map fun x => .int .i32 x.v).toArray
def pws : List Value → Option (List Wd)
 | [] => some []
 | .int .i32 n :: l => match pws l with | some r => some (kW n :: r) | none => none
 | _ :: _ => none
def pas : List Value → Option (List PA)
 | [] => some []
 | .int .i32 n :: l => match pas l with | some r => some (.w (kW n) :: r) | none => none
 | .agg ds :: l => match pws ds.toList with
  | some q => match pas l with | some r => some (.a q :: r) | none => none
  | none => none
 | _ :: _ => none
def fP (R : List PA → Option Value) (us : List Value) : Option Value := match pas us with | some ps => R ps | none => none
theorem goodC_2 (a b : Wd) : goodC (.tuple #[.int .i32 a.v, .int .i32 b.v]) := .inr ⟨_, rfl, fun u hu => by
 simp at hu
 rcases hu with rfl | rfl
 · exact .inl (good_w _)
 · exact .inl (good_w _)⟩
def wl (l : List Wd) : List Value := l.map fun x => .int .i32 x.v
def addK (a b : Int) : Int := (addsW (kW a) (kW b)).v
def subK (a b : Int) : Int := (subsW (kW a) (kW b)).v
def mulK (a b : Int) : Int := (mulqW (kW a) (kW b)).v
def shlK (a b : Int) : Int := (shlW (kW a) (kW b)).v
def shrK (a b : Int) : Int := (shrW (kW a) (kW b)).v
def sarK (a b : Int) : Int := (sarW (kW a) (kW b)).v
def levT0 (c : Int) : Int := IntKind.i32.wrap (c - IntKind.i32.wrap (c.tmod 2))
def levT1 (c : Int) : Int := levT0 (IntKind.i32.wrap (c - 32))
def levS : List (FuncId × Sh) := [(64, .one), (47, .one), (66, .one)]
noncomputable def levT : List Ent := [clzE, shlE, shrE]
set_option maxRecDepth 100000 in
theorem level_run0 (a : Wd) : runP (cxR [] levS [(2, true)]) (tabOf levT) 100 44 [.opq 0] [.int .i32 a.v] = some (.tuple #[.int .i32 (shrK (shlK a.v (levT1 (clzW (kW a.v)).v)) 2), .int .i32 (IntKind.i32.wrap ((levT1 (clzW (kW a.v)).v).tdiv 2))], [oGeq 21 .i32 (clzW (kW a.v)).v 32 true]) := by kernel_rfl
set_option maxRecDepth 100000 in
theorem level_run1 (a : Wd) : runP (cxR [] levS [(2, false)]) (tabOf levT) 100 44 [.opq 0] [.int .i32 a.v] = some (.tuple #[.int .i32 (shrK (shlK a.v (levT0 (clzW (kW a.v)).v)) 2), .int .i32 (IntKind.i32.wrap ((levT0 (clzW (kW a.v)).v).tdiv 2))], [oGeq 21 .i32 (clzW (kW a.v)).v 32 false]) := by kernel_rfl
def rootH (x : Wd) : Wd := shrW (rootT x) (kW 1)
theorem lev_all : ∀ c : Fin 32, levT0 (Int.ofNat c.val) = andI (Int.ofNat c.val) 30 ∧ IntKind.i32.wrap ((levT0 (Int.ofNat c.val)).tdiv 2) = shrI (andI (Int.ofNat c.val) 30) 1 := by decide +kernel
theorem clz_bd (a : Wd) : 0 ≤ (clzW a).v ∧ (clzW a).v ≤ 32 := by
 have h := Any.bitLen_le32 (a.v % 4294967296) (by omega) (by omega)
 show 0 ≤ 32 - (Lib.bitLen (a.v % 4294967296).toNat : Int) ∧ 32 - (Lib.bitLen (a.v % 4294967296).toNat : Int) ≤ 32
 omega
theorem refLevel (a : Wd) (w : World) : Calls Tryz.prog 44 #[.int .i32 a.v] w fun e w' => e = .returned (.tuple #[.int .i32 (rootU a).v, .int .i32 (rootH a).v]) ∧ Chg w w' [] := by
 have hc := clz_bd a
 have key : ∀ T : Int, T = (rootT a).v → IntKind.i32.wrap (T.tdiv 2) = (rootH a).v → Value.tuple #[.int .i32 (shrK (shlK a.v T) 2), .int .i32 (IntKind.i32.wrap (T.tdiv 2))] = .tuple #[.int .i32 (rootU a).v, .int .i32 (rootH a).v] := fun T h1 h2 => by
  rw [h2, h1]
  unfold shrK shlK
  rw [kW_self, kW_self, kW_self]
  rfl
 by_cases h32 : 32 ≤ (clzW a).v
 · have e : (clzW a).v = 32 := by omega
   have h := cxR_calls _ (level_run0 a) (ins1 a) (obs1 (oGeq_ok (by rw [kW_self]; simpa using h32))) w
   rw [kW_self] at h
   rw [key _ ?_ ?_] at h
   · exact h
   · rw [e]; show levT1 32 = andI (clzW a).v (kW 30).v; rw [e]; decide +kernel
   · rw [e]; show _ = shrI (andI (clzW a).v (kW 30).v) (kW 1).v; rw [e]; decide +kernel
 · obtain ⟨q1, q2⟩ := lev_all ⟨(clzW a).v.toNat, by omega⟩
   have e : Int.ofNat (clzW a).v.toNat = (clzW a).v := by simp; omega
   simp only [e] at q1 q2
   have h := cxR_calls _ (level_run1 a) (ins1 a) (obs1 (oGeq_ok (by rw [kW_self]; simpa using h32))) w
   rw [kW_self] at h
   have k30 : (kW 30).v = 30 := kW_v (by decide)
   have k1 : (kW 1).v = 1 := kW_v (by decide)
   rw [key _ (q1.trans (by show _ = andI (clzW a).v (kW 30).v; rw [k30])) (q2.trans (by show _ = shrI (andI (clzW a).v (kW 30).v) (kW 1).v; rw [k30, k1]))] at h
   exact h
noncomputable def levelE : Ent := ent1 44 (fun a => .tuple #[.int .i32 (rootU a).v, .int .i32 (rootH a).v]) (fun a => goodC_2 _ _) refLevel
theorem up_eq (a : Wd) {n : Int} (h : In32 n) : upW a n = shlW a (kW n) := Wd.ext_ (by show shlI a.v n = shlI a.v (kW n).v; rw [kW_v h])
theorem down_eq (a : Wd) {n : Int} (h : In32 n) : downW a n = sarW a (kW n) := Wd.ext_ (by show sarI a.v n = sarI a.v (kW n).v; rw [kW_v h])
def rsK (u : Int) : Nat → Int
 | 0 => subK 1184766729 (mulK 715827883 u)
 | n + 1 => addK (rsK u n) (sarK (mulK (rsK u n) (subK 1073741824 (shlK (mulK u (mulK (rsK u n) (rsK u n))) 2))) 1)
def rsS : List (FuncId × Sh) := [(44, .two .one .one), (46, .one), (48, .one), (45, .one), (47, .one), (49, .one)]
noncomputable def rsT : List Ent := [levelE, mulqE, addE, subE, shlE, sarE]
set_option maxRecDepth 100000 in
theorem rsqrt_run (a : Wd) : runP (cxR [] rsS []) (tabOf rsT) 100 13 [.opq 0] [.int .i32 a.v] = some (.tuple #[.int .i32 (rsK (rootU (kW a.v)).v 4), .int .i32 (rootH (kW a.v)).v], []) := by kernel_rfl
theorem rsK_eq (u : Wd) : ∀ n, rsK u.v n = (rootZ u n).v
 | 0 => by unfold rsK subK mulK; rw [kW_self, kW_self]; rfl
 | n + 1 => by
  unfold rsK addK sarK mulK subK shlK
  rw [rsK_eq u n]
  simp only [kW_self]
  rw [rootZ, rootStep, up_eq _ (by decide), down_eq _ (by decide)]
theorem refRsqrt (a : Wd) (w : World) : Calls Tryz.prog 13 #[.int .i32 a.v] w fun e w' => e = .returned (.tuple #[.int .i32 (rootW a).1.v, .int .i32 (rootW a).2.v]) ∧ Chg w w' [] := by
 have h := cxR_calls _ (rsqrt_run a) (ins1 a) obs0 w
 rw [kW_self, rsK_eq] at h
 exact h
end Go.Proofs.YtakkofepcbkbkaaGreatDoor.Xi

/- Layer 9: the reference's turns and angles are the program's. -/
namespace Go.Proofs.YtakkofepcbkbkaaGreatDoor.Xi
open Go Go.RowKit
set_option linter.unusedVariables false
def flipK (a b : Int) : Int := (flipW (kW a) (kW b)).v
def signK (a : Int) : Int := (signW (kW a)).v
def W64 (a : Int) : Int := IntKind.i64.wrap a
structure I3 where
 x : Int
 y : Int
 a : Int
def tabI (i : Nat) : Int := ([421657428, 248918915, 131521918, 66762579, 33510843, 16771758, 8387925, 4194219, 2097141, 1048575, 524288, 262144, 131072, 65536, 32768, 16384, 8192, 4096, 2048, 1024, 512, 256, 128, 64, 32, 16, 8, 4] : List Int).getD i 0
def vecS (i : Nat) (s : I3) : I3 := ⟨(kW (W64 (W64 s.x + W64 (flipK (sarK s.y (Int.ofNat i)) (signK s.y))))).v, (kW (W64 (W64 s.y - W64 (flipK (sarK s.x (Int.ofNat i)) (signK s.y))))).v, (kW (W64 (W64 s.a + W64 (flipK (tabI i) (signK s.y))))).v⟩
def vec (x y : Int) : Nat → I3
 | 0 => ⟨x, y, 0⟩
 | i + 1 => vecS i (vec x y i)
def vS : List (FuncId × Sh) := [(127, .one), (128, .one), (49, .one), (67, .one)]
noncomputable def vT : List Ent := [signE, flipE, sarE, lowE]
set_option maxRecDepth 100000 in
theorem vector_run (y x : Wd) : runP (cxR [] vS []) (tabOf vT) 400 65 [.opq 0, .opq 1] [.int .i32 y.v, .int .i32 x.v] = some (.tuple #[.int .i32 (vec x.v y.v 28).x, .int .i32 (vec x.v y.v 28).y, .int .i32 (vec x.v y.v 28).a], []) := by kernel_rfl
theorem k_add (a b : Wd) : (kW (W64 (W64 a.v + W64 b.v))).v = (addW a b).v := by
 have ha := a.ok
 have hb := b.ok
 unfold In32 at ha hb
 unfold W64
 rw [w64, w64]
 show wrap32 (IntKind.i64.wrap (a.v + b.v)) = wrap32 (a.v + b.v)
 rw [show IntKind.i64.wrap (a.v + b.v) = a.v + b.v by rw [IntKind.wrap_i64]; omega]
theorem k_sub (a b : Wd) : (kW (W64 (W64 a.v - W64 b.v))).v = (subW a b).v := by
 have ha := a.ok
 have hb := b.ok
 unfold In32 at ha hb
 unfold W64
 rw [w64, w64]
 show wrap32 (IntKind.i64.wrap (a.v - b.v)) = wrap32 (a.v - b.v)
 rw [show IntKind.i64.wrap (a.v - b.v) = a.v - b.v by rw [IntKind.wrap_i64]; omega]
theorem tab_all : ∀ i : Fin 28, (kW (tabI i.val)).v = (turnsL.getD i.val (kW 0)).v := by decide +kernel
theorem vec_eq (x y : Wd) : ∀ n, n ≤ 28 → vec x.v y.v n = ⟨(turnW x y n).a.v, (turnW x y n).b.v, (turnW x y n).c.v⟩
 | 0, _ => by
  show I3.mk x.v y.v 0 = ⟨x.v, y.v, (kW 0).v⟩
  rw [kW_v (by decide : In32 0)]
 | n + 1, h => by
  have ht : kW (tabI n) = turnsL.getD n (kW 0) := Wd.ext_ (tab_all ⟨n, by omega⟩)
  rw [vec, vec_eq x y n (by omega), turnW]
  generalize turnW x y n = s
  unfold vecS turnStep flipK sarK signK
  simp only [kW_self, ht, Int.ofNat_eq_natCast]
  rw [k_add, k_sub, k_add]
theorem goodC_3 (a b c : Wd) : goodC (.tuple #[.int .i32 a.v, .int .i32 b.v, .int .i32 c.v]) := .inr ⟨_, rfl, fun u hu => by
 simp at hu
 rcases hu with rfl | rfl | rfl
 · exact .inl (good_w _)
 · exact .inl (good_w _)
 · exact .inl (good_w _)⟩
def t3v (t : T3) : Value := .tuple #[.int .i32 t.a.v, .int .i32 t.b.v, .int .i32 t.c.v]
theorem refVector (y x : Wd) (w : World) : Calls Tryz.prog 65 #[.int .i32 y.v, .int .i32 x.v] w fun e w' => e = .returned (t3v (turnW x y 28)) ∧ Chg w w' [] := by
 have h := cxR_calls _ (vector_run y x) (good_2 y x) obs0 w
 rw [vec_eq x y 28 (by omega)] at h
 exact h
noncomputable def vectorE : Ent := ent2 65 (fun y x => t3v (turnW x y 28)) (fun _ _ => goodC_3 _ _ _) refVector
def absK (a : Int) : Int := (absW (kW a)).v
def maxK (a b : Int) : Int := (maxW (kW a) (kW b)).v
def minK (a b : Int) : Int := (minW (kW a) (kW b)).v
def agS (y x : Int) : Int := IntKind.i32.wrap ((clzW (kW (maxK (absK x) (absK y)))).v - 1)
def agL (v s : Int) : Int := shrK (shlK v s) 2
def agA (y x : Int) : Int := (turnW (kW (agL (maxK (absK x) (absK y)) (agS y x))) (kW (agL (minK (absK x) (absK y)) (agS y x))) 28).c.v
def lowS (k a : Int) : Int := (kW (W64 (k - W64 a))).v
def aS : List (FuncId × Sh) := [(61, .one), (62, .one), (63, .one), (64, .one), (47, .one), (66, .one), (65, .three .one .one .one), (67, .one)]
noncomputable def aT : List Ent := [absE, maxE, minE, clzE, shlE, shrE, vectorE, lowE]
set_option maxRecDepth 100000 in
theorem angle_run111 (y x : Wd) : runP (cxR [] aS [(15, true), (19, true), (23, true)]) (tabOf aT) 200 30 [.opq 0, .opq 1] [.int .i32 y.v, .int .i32 x.v] = some (.int .i32 (lowS 0 (lowS 1686629713 (lowS 843314857 (agA y.v x.v)))), [oLss 21 .i32 y.v 0 true, oLss 21 .i32 x.v 0 true, oLss 21 .i32 (absK x.v) (absK y.v) true]) := by kernel_rfl
set_option maxRecDepth 100000 in
theorem angle_run110 (y x : Wd) : runP (cxR [] aS [(15, true), (19, true), (23, false)]) (tabOf aT) 200 30 [.opq 0, .opq 1] [.int .i32 y.v, .int .i32 x.v] = some (.int .i32 (lowS 1686629713 (lowS 843314857 (agA y.v x.v))), [oLss 21 .i32 y.v 0 false, oLss 21 .i32 x.v 0 true, oLss 21 .i32 (absK x.v) (absK y.v) true]) := by kernel_rfl
set_option maxRecDepth 100000 in
theorem angle_run101 (y x : Wd) : runP (cxR [] aS [(15, true), (19, false), (20, true)]) (tabOf aT) 200 30 [.opq 0, .opq 1] [.int .i32 y.v, .int .i32 x.v] = some (.int .i32 (lowS 0 (lowS 843314857 (agA y.v x.v))), [oLss 21 .i32 y.v 0 true, oLss 21 .i32 x.v 0 false, oLss 21 .i32 (absK x.v) (absK y.v) true]) := by kernel_rfl
set_option maxRecDepth 100000 in
theorem angle_run100 (y x : Wd) : runP (cxR [] aS [(15, true), (19, false), (20, false)]) (tabOf aT) 200 30 [.opq 0, .opq 1] [.int .i32 y.v, .int .i32 x.v] = some (.int .i32 (lowS 843314857 (agA y.v x.v)), [oLss 21 .i32 y.v 0 false, oLss 21 .i32 x.v 0 false, oLss 21 .i32 (absK x.v) (absK y.v) true]) := by kernel_rfl
set_option maxRecDepth 100000 in
theorem angle_run011 (y x : Wd) : runP (cxR [] aS [(15, false), (16, true), (20, true)]) (tabOf aT) 200 30 [.opq 0, .opq 1] [.int .i32 y.v, .int .i32 x.v] = some (.int .i32 (lowS 0 (lowS 1686629713 (agA y.v x.v))), [oLss 21 .i32 y.v 0 true, oLss 21 .i32 x.v 0 true, oLss 21 .i32 (absK x.v) (absK y.v) false]) := by kernel_rfl
set_option maxRecDepth 100000 in
theorem angle_run010 (y x : Wd) : runP (cxR [] aS [(15, false), (16, true), (20, false)]) (tabOf aT) 200 30 [.opq 0, .opq 1] [.int .i32 y.v, .int .i32 x.v] = some (.int .i32 (lowS 1686629713 (agA y.v x.v)), [oLss 21 .i32 y.v 0 false, oLss 21 .i32 x.v 0 true, oLss 21 .i32 (absK x.v) (absK y.v) false]) := by kernel_rfl
set_option maxRecDepth 100000 in
theorem angle_run001 (y x : Wd) : runP (cxR [] aS [(15, false), (16, false), (17, true)]) (tabOf aT) 200 30 [.opq 0, .opq 1] [.int .i32 y.v, .int .i32 x.v] = some (.int .i32 (lowS 0 (agA y.v x.v)), [oLss 21 .i32 y.v 0 true, oLss 21 .i32 x.v 0 false, oLss 21 .i32 (absK x.v) (absK y.v) false]) := by kernel_rfl
set_option maxRecDepth 100000 in
theorem angle_run000 (y x : Wd) : runP (cxR [] aS [(15, false), (16, false), (17, false)]) (tabOf aT) 200 30 [.opq 0, .opq 1] [.int .i32 y.v, .int .i32 x.v] = some (.int .i32 (agA y.v x.v), [oLss 21 .i32 y.v 0 false, oLss 21 .i32 x.v 0 false, oLss 21 .i32 (absK x.v) (absK y.v) false]) := by kernel_rfl
theorem agA_eq (y x : Wd) : agA y.v x.v = (angleA y x).c.v := by
 have e : kW (agS y.v x.v) = subW (clzW (maxW (absW x) (absW y))) (kW 1) := by
  unfold agS maxK absK
  simp only [kW_self]
  apply Wd.ext_
  show wrap32 (IntKind.i32.wrap _) = wrap32 (_ - (kW 1).v)
  rw [kW_v (by decide : In32 1), IntKind.wrap_i32]
  unfold wrap32
  omega
 unfold agA agL shrK shlK
 rw [e]
 unfold maxK minK absK
 simp only [kW_self]
 rfl
theorem lowS_eq {k : Int} (hk : In32 k) (a : Wd) : lowS k a.v = (subW (kW k) a).v := by
 have e := k_sub (kW k) a
 rw [kW_v hk] at e
 have hw : W64 k = k := by unfold W64; rw [← kW_v hk]; exact w64 _
 rw [hw] at e
 exact e
theorem flip_neg (a : Wd) : flipW a (kW (-1)) = subW (kW 0) a := Wd.ext_ (by
 have ok := a.ok
 unfold In32 at ok
 show subI (xorI a.v (kW (-1)).v) (kW (-1)).v = subI (kW 0).v a.v
 rw [kW_v (by decide : In32 (-1)), kW_v (by decide : In32 0), xor_all a.ok]
 unfold subI
 congr 1
 omega)
theorem refAngle (y x : Wd) (w : World) : Calls Tryz.prog 30 #[.int .i32 y.v, .int .i32 x.v] w fun e w' => e = .returned (.int .i32 (angleW y x).v) ∧ Chg w w' [] := by
 have i1 : In32 843314857 := by decide
 have i2 : In32 1686629713 := by decide
 have i3 : In32 0 := by decide
 have ka : absK x.v = (absW x).v := by unfold absK; rw [kW_self]
 have kb : absK y.v = (absW y).v := by unfold absK; rw [kW_self]
 unfold angleW angleC angleCof angleB angleBof
 by_cases h1 : (absW x).v < (absW y).v
 · rw [slt_yes h1, sel_all]
   by_cases h2 : x.v < 0
   · rw [sign_neg h2, sel_all]
     by_cases h3 : y.v < 0
     · rw [sign_neg h3, flip_neg]
       have h := cxR_calls _ (angle_run111 y x) (good_2 y x) (obsC (oLss_ok (by simpa using h3)) (obsC (oLss_ok (by simpa using h2)) (obs1 (oLss_ok (by rw [ka, kb]; simpa using h1))))) w
       rw [agA_eq, lowS_eq i1, lowS_eq i2, lowS_eq i3] at h
       exact h
     · rw [sign_pos (by omega : 0 ≤ y.v), flip_none]
       have h := cxR_calls _ (angle_run110 y x) (good_2 y x) (obsC (oLss_ok (by simpa using h3)) (obsC (oLss_ok (by simpa using h2)) (obs1 (oLss_ok (by rw [ka, kb]; simpa using h1))))) w
       rw [agA_eq, lowS_eq i1, lowS_eq i2] at h
       exact h
   · rw [sign_pos (by omega : 0 ≤ x.v), sel_none]
     by_cases h3 : y.v < 0
     · rw [sign_neg h3, flip_neg]
       have h := cxR_calls _ (angle_run101 y x) (good_2 y x) (obsC (oLss_ok (by simpa using h3)) (obsC (oLss_ok (by simpa using h2)) (obs1 (oLss_ok (by rw [ka, kb]; simpa using h1))))) w
       rw [agA_eq, lowS_eq i1, lowS_eq i3] at h
       exact h
     · rw [sign_pos (by omega : 0 ≤ y.v), flip_none]
       have h := cxR_calls _ (angle_run100 y x) (good_2 y x) (obsC (oLss_ok (by simpa using h3)) (obsC (oLss_ok (by simpa using h2)) (obs1 (oLss_ok (by rw [ka, kb]; simpa using h1))))) w
       rw [agA_eq, lowS_eq i1] at h
       exact h
 · rw [slt_no (by omega), sel_none]
   by_cases h2 : x.v < 0
   · rw [sign_neg h2, sel_all]
     by_cases h3 : y.v < 0
     · rw [sign_neg h3, flip_neg]
       have h := cxR_calls _ (angle_run011 y x) (good_2 y x) (obsC (oLss_ok (by simpa using h3)) (obsC (oLss_ok (by simpa using h2)) (obs1 (oLss_ok (by rw [ka, kb]; simpa using h1))))) w
       rw [agA_eq, lowS_eq i2, lowS_eq i3] at h
       exact h
     · rw [sign_pos (by omega : 0 ≤ y.v), flip_none]
       have h := cxR_calls _ (angle_run010 y x) (good_2 y x) (obsC (oLss_ok (by simpa using h3)) (obsC (oLss_ok (by simpa using h2)) (obs1 (oLss_ok (by rw [ka, kb]; simpa using h1))))) w
       rw [agA_eq, lowS_eq i2] at h
       exact h
   · rw [sign_pos (by omega : 0 ≤ x.v), sel_none]
     by_cases h3 : y.v < 0
     · rw [sign_neg h3, flip_neg]
       have h := cxR_calls _ (angle_run001 y x) (good_2 y x) (obsC (oLss_ok (by simpa using h3)) (obsC (oLss_ok (by simpa using h2)) (obs1 (oLss_ok (by rw [ka, kb]; simpa using h1))))) w
       rw [agA_eq, lowS_eq i3] at h
       exact h
     · rw [sign_pos (by omega : 0 ≤ y.v), flip_none]
       have h := cxR_calls _ (angle_run000 y x) (good_2 y x) (obsC (oLss_ok (by simpa using h3)) (obsC (oLss_ok (by simpa using h2)) (obs1 (oLss_ok (by rw [ka, kb]; simpa using h1))))) w
       rw [agA_eq] at h
       exact h
end Go.Proofs.YtakkofepcbkbkaaGreatDoor.Xi
