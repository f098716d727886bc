/- Layer 9: the reference's turns and angles are the program's. -/
import Derived.Test.YtkfkoobdmnndcaaGreatRunF
import Derived.Test.YtkfkoobdmnndcaaGreatBitLaw
import Derived.Test.YtkfkoobdmnndcaaGreatWorks10b
namespace Go.Proofs.YtkfkoobdmnndcaaGreat.Xi
open Go Go.RowKit
set_option linter.unusedVariables false
def flipK (a b : Int) : Int := (flipW (kW a) (kW b)).v
def signK (a : Int) : Int := (signW (kW a)).v
def W64 (a : Int) : Int := IntKind.i64.wrap a
structure I3 where
  x : Int
  y : Int
  a : Int
def tabI (i : Nat) : Int := ([421657428, 248918915, 131521918, 66762579, 33510843, 16771758, 8387925, 4194219, 2097141, 1048575, 524288, 262144, 131072, 65536, 32768, 16384, 8192, 4096, 2048, 1024, 512, 256, 128, 64, 32, 16, 8, 4] : List Int).getD i 0
def vecS (i : Nat) (s : I3) : I3 := ⟨(kW (W64 (W64 s.x + W64 (flipK (sarK s.y (Int.ofNat i)) (signK s.y))))).v, (kW (W64 (W64 s.y - W64 (flipK (sarK s.x (Int.ofNat i)) (signK s.y))))).v, (kW (W64 (W64 s.a + W64 (flipK (tabI i) (signK s.y))))).v⟩
def vec (x y : Int) : Nat → I3
  | 0 => ⟨x, y, 0⟩
  | i + 1 => vecS i (vec x y i)
def vS : List (FuncId × Sh) := [(116, .one), (117, .one), (66, .one), (28, .one)]
noncomputable def vT : List Ent := [signE, flipE, sarE, lowE]
set_option maxRecDepth 100000 in
theorem vector_run (y x : Wd) : runP (cxR [] vS []) (tabOf vT) 400 83 [.opq 0, .opq 1] [.int .i32 y.v, .int .i32 x.v] = some (.tuple #[.int .i32 (vec x.v y.v 28).x, .int .i32 (vec x.v y.v 28).y, .int .i32 (vec x.v y.v 28).a], []) := by kernel_rfl
theorem k_add (a b : Wd) : (kW (W64 (W64 a.v + W64 b.v))).v = (addW a b).v := by
  have ha := a.ok
  have hb := b.ok
  unfold In32 at ha hb
  unfold W64
  rw [w64, w64]
  show wrap32 (IntKind.i64.wrap (a.v + b.v)) = wrap32 (a.v + b.v)
  rw [show IntKind.i64.wrap (a.v + b.v) = a.v + b.v by rw [IntKind.wrap_i64]; omega]
theorem k_sub (a b : Wd) : (kW (W64 (W64 a.v - W64 b.v))).v = (subW a b).v := by
  have ha := a.ok
  have hb := b.ok
  unfold In32 at ha hb
  unfold W64
  rw [w64, w64]
  show wrap32 (IntKind.i64.wrap (a.v - b.v)) = wrap32 (a.v - b.v)
  rw [show IntKind.i64.wrap (a.v - b.v) = a.v - b.v by rw [IntKind.wrap_i64]; omega]
theorem tab_all : ∀ i : Fin 28, (kW (tabI i.val)).v = (turnsL.getD i.val (kW 0)).v := by decide +kernel
theorem vec_eq (x y : Wd) : ∀ n, n ≤ 28 → vec x.v y.v n = ⟨(turnW x y n).a.v, (turnW x y n).b.v, (turnW x y n).c.v⟩
  | 0, _ => by
    show I3.mk x.v y.v 0 = ⟨x.v, y.v, (kW 0).v⟩
    rw [kW_v (by decide : In32 0)]
  | n + 1, h => by
    have ht : kW (tabI n) = turnsL.getD n (kW 0) := Wd.ext_ (tab_all ⟨n, by omega⟩)
    rw [vec, vec_eq x y n (by omega), turnW]
    generalize turnW x y n = s
    unfold vecS turnStep flipK sarK signK
    simp only [kW_self, ht, Int.ofNat_eq_natCast]
    rw [k_add, k_sub, k_add]
theorem goodC_3 (a b c : Wd) : goodC (.tuple #[.int .i32 a.v, .int .i32 b.v, .int .i32 c.v]) := .inr ⟨_, rfl, fun u hu => by
  simp at hu
  rcases hu with rfl | rfl | rfl
  · exact .inl (good_w _)
  · exact .inl (good_w _)
  · exact .inl (good_w _)⟩
def t3v (t : T3) : Value := .tuple #[.int .i32 t.a.v, .int .i32 t.b.v, .int .i32 t.c.v]
theorem refVector (y x : Wd) (w : World) : Calls Tryz.prog 83 #[.int .i32 y.v, .int .i32 x.v] w fun e w' => e = .returned (t3v (turnW x y 28)) ∧ Chg w w' [] := by
  have h := cxR_calls _ (vector_run y x) (good_2 y x) obs0 w
  rw [vec_eq x y 28 (by omega)] at h
  exact h
noncomputable def vectorE : Ent := ent2 83 (fun y x => t3v (turnW x y 28)) (fun _ _ => goodC_3 _ _ _) refVector
/-! ### Angle -/
def absK (a : Int) : Int := (absW (kW a)).v
def maxK (a b : Int) : Int := (maxW (kW a) (kW b)).v
def minK (a b : Int) : Int := (minW (kW a) (kW b)).v
def agS (y x : Int) : Int := IntKind.i32.wrap ((clzW (kW (maxK (absK x) (absK y)))).v - 1)
def agL (v s : Int) : Int := shrK (shlK v s) 2
def agA (y x : Int) : Int := (turnW (kW (agL (maxK (absK x) (absK y)) (agS y x))) (kW (agL (minK (absK x) (absK y)) (agS y x))) 28).c.v
def lowS (k a : Int) : Int := (kW (W64 (k - W64 a))).v
def aS : List (FuncId × Sh) := [(41, .one), (80, .one), (81, .one), (82, .one), (34, .one), (84, .one), (83, .three .one .one .one), (28, .one)]
noncomputable def aT : List Ent := [absE, maxE, minE, clzE, shlE, shrE, vectorE, lowE]
set_option maxRecDepth 100000 in
theorem angle_run111 (y x : Wd) : runP (cxR [] aS [(15, true), (19, true), (23, true)]) (tabOf aT) 200 39 [.opq 0, .opq 1] [.int .i32 y.v, .int .i32 x.v] = some (.int .i32 (lowS 0 (lowS 1686629713 (lowS 843314857 (agA y.v x.v)))), [oLss 21 .i32 y.v 0 true, oLss 21 .i32 x.v 0 true, oLss 21 .i32 (absK x.v) (absK y.v) true]) := by kernel_rfl
set_option maxRecDepth 100000 in
theorem angle_run110 (y x : Wd) : runP (cxR [] aS [(15, true), (19, true), (23, false)]) (tabOf aT) 200 39 [.opq 0, .opq 1] [.int .i32 y.v, .int .i32 x.v] = some (.int .i32 (lowS 1686629713 (lowS 843314857 (agA y.v x.v))), [oLss 21 .i32 y.v 0 false, oLss 21 .i32 x.v 0 true, oLss 21 .i32 (absK x.v) (absK y.v) true]) := by kernel_rfl
set_option maxRecDepth 100000 in
theorem angle_run101 (y x : Wd) : runP (cxR [] aS [(15, true), (19, false), (20, true)]) (tabOf aT) 200 39 [.opq 0, .opq 1] [.int .i32 y.v, .int .i32 x.v] = some (.int .i32 (lowS 0 (lowS 843314857 (agA y.v x.v))), [oLss 21 .i32 y.v 0 true, oLss 21 .i32 x.v 0 false, oLss 21 .i32 (absK x.v) (absK y.v) true]) := by kernel_rfl
set_option maxRecDepth 100000 in
theorem angle_run100 (y x : Wd) : runP (cxR [] aS [(15, true), (19, false), (20, false)]) (tabOf aT) 200 39 [.opq 0, .opq 1] [.int .i32 y.v, .int .i32 x.v] = some (.int .i32 (lowS 843314857 (agA y.v x.v)), [oLss 21 .i32 y.v 0 false, oLss 21 .i32 x.v 0 false, oLss 21 .i32 (absK x.v) (absK y.v) true]) := by kernel_rfl
set_option maxRecDepth 100000 in
theorem angle_run011 (y x : Wd) : runP (cxR [] aS [(15, false), (16, true), (20, true)]) (tabOf aT) 200 39 [.opq 0, .opq 1] [.int .i32 y.v, .int .i32 x.v] = some (.int .i32 (lowS 0 (lowS 1686629713 (agA y.v x.v))), [oLss 21 .i32 y.v 0 true, oLss 21 .i32 x.v 0 true, oLss 21 .i32 (absK x.v) (absK y.v) false]) := by kernel_rfl
set_option maxRecDepth 100000 in
theorem angle_run010 (y x : Wd) : runP (cxR [] aS [(15, false), (16, true), (20, false)]) (tabOf aT) 200 39 [.opq 0, .opq 1] [.int .i32 y.v, .int .i32 x.v] = some (.int .i32 (lowS 1686629713 (agA y.v x.v)), [oLss 21 .i32 y.v 0 false, oLss 21 .i32 x.v 0 true, oLss 21 .i32 (absK x.v) (absK y.v) false]) := by kernel_rfl
set_option maxRecDepth 100000 in
theorem angle_run001 (y x : Wd) : runP (cxR [] aS [(15, false), (16, false), (17, true)]) (tabOf aT) 200 39 [.opq 0, .opq 1] [.int .i32 y.v, .int .i32 x.v] = some (.int .i32 (lowS 0 (agA y.v x.v)), [oLss 21 .i32 y.v 0 true, oLss 21 .i32 x.v 0 false, oLss 21 .i32 (absK x.v) (absK y.v) false]) := by kernel_rfl
set_option maxRecDepth 100000 in
theorem angle_run000 (y x : Wd) : runP (cxR [] aS [(15, false), (16, false), (17, false)]) (tabOf aT) 200 39 [.opq 0, .opq 1] [.int .i32 y.v, .int .i32 x.v] = some (.int .i32 (agA y.v x.v), [oLss 21 .i32 y.v 0 false, oLss 21 .i32 x.v 0 false, oLss 21 .i32 (absK x.v) (absK y.v) false]) := by kernel_rfl
theorem agA_eq (y x : Wd) : agA y.v x.v = (angleA y x).c.v := by
  have e : kW (agS y.v x.v) = subW (clzW (maxW (absW x) (absW y))) (kW 1) := by
    unfold agS maxK absK
    simp only [kW_self]
    apply Wd.ext_
    show wrap32 (IntKind.i32.wrap _) = wrap32 (_ - (kW 1).v)
    rw [kW_v (by decide : In32 1), IntKind.wrap_i32]
    unfold wrap32
    omega
  unfold agA agL shrK shlK
  rw [e]
  unfold maxK minK absK
  simp only [kW_self]
  rfl
theorem lowS_eq {k : Int} (hk : In32 k) (a : Wd) : lowS k a.v = (subW (kW k) a).v := by
  have e := k_sub (kW k) a
  rw [kW_v hk] at e
  have hw : W64 k = k := by unfold W64; rw [← kW_v hk]; exact w64 _
  rw [hw] at e
  exact e
theorem flip_neg (a : Wd) : flipW a (kW (-1)) = subW (kW 0) a := Wd.ext_ (by
  have ok := a.ok
  unfold In32 at ok
  show subI (xorI a.v (kW (-1)).v) (kW (-1)).v = subI (kW 0).v a.v
  rw [kW_v (by decide : In32 (-1)), kW_v (by decide : In32 0), xor_all a.ok]
  unfold subI
  congr 1
  omega)
theorem refAngle (y x : Wd) (w : World) : Calls Tryz.prog 39 #[.int .i32 y.v, .int .i32 x.v] w fun e w' => e = .returned (.int .i32 (angleW y x).v) ∧ Chg w w' [] := by
  have i1 : In32 843314857 := by decide
  have i2 : In32 1686629713 := by decide
  have i3 : In32 0 := by decide
  have ka : absK x.v = (absW x).v := by unfold absK; rw [kW_self]
  have kb : absK y.v = (absW y).v := by unfold absK; rw [kW_self]
  unfold angleW angleC angleCof angleB angleBof
  by_cases h1 : (absW x).v < (absW y).v
  · rw [slt_yes h1, sel_all]
    by_cases h2 : x.v < 0
    · rw [sign_neg h2, sel_all]
      by_cases h3 : y.v < 0
      · rw [sign_neg h3, flip_neg]
        have h := cxR_calls _ (angle_run111 y x) (good_2 y x) (obsC (oLss_ok (by simpa using h3)) (obsC (oLss_ok (by simpa using h2)) (obs1 (oLss_ok (by rw [ka, kb]; simpa using h1))))) w
        rw [agA_eq, lowS_eq i1, lowS_eq i2, lowS_eq i3] at h
        exact h
      · rw [sign_pos (by omega : 0 ≤ y.v), flip_none]
        have h := cxR_calls _ (angle_run110 y x) (good_2 y x) (obsC (oLss_ok (by simpa using h3)) (obsC (oLss_ok (by simpa using h2)) (obs1 (oLss_ok (by rw [ka, kb]; simpa using h1))))) w
        rw [agA_eq, lowS_eq i1, lowS_eq i2] at h
        exact h
    · rw [sign_pos (by omega : 0 ≤ x.v), sel_none]
      by_cases h3 : y.v < 0
      · rw [sign_neg h3, flip_neg]
        have h := cxR_calls _ (angle_run101 y x) (good_2 y x) (obsC (oLss_ok (by simpa using h3)) (obsC (oLss_ok (by simpa using h2)) (obs1 (oLss_ok (by rw [ka, kb]; simpa using h1))))) w
        rw [agA_eq, lowS_eq i1, lowS_eq i3] at h
        exact h
      · rw [sign_pos (by omega : 0 ≤ y.v), flip_none]
        have h := cxR_calls _ (angle_run100 y x) (good_2 y x) (obsC (oLss_ok (by simpa using h3)) (obsC (oLss_ok (by simpa using h2)) (obs1 (oLss_ok (by rw [ka, kb]; simpa using h1))))) w
        rw [agA_eq, lowS_eq i1] at h
        exact h
  · rw [slt_no (by omega), sel_none]
    by_cases h2 : x.v < 0
    · rw [sign_neg h2, sel_all]
      by_cases h3 : y.v < 0
      · rw [sign_neg h3, flip_neg]
        have h := cxR_calls _ (angle_run011 y x) (good_2 y x) (obsC (oLss_ok (by simpa using h3)) (obsC (oLss_ok (by simpa using h2)) (obs1 (oLss_ok (by rw [ka, kb]; simpa using h1))))) w
        rw [agA_eq, lowS_eq i2, lowS_eq i3] at h
        exact h
      · rw [sign_pos (by omega : 0 ≤ y.v), flip_none]
        have h := cxR_calls _ (angle_run010 y x) (good_2 y x) (obsC (oLss_ok (by simpa using h3)) (obsC (oLss_ok (by simpa using h2)) (obs1 (oLss_ok (by rw [ka, kb]; simpa using h1))))) w
        rw [agA_eq, lowS_eq i2] at h
        exact h
    · rw [sign_pos (by omega : 0 ≤ x.v), sel_none]
      by_cases h3 : y.v < 0
      · rw [sign_neg h3, flip_neg]
        have h := cxR_calls _ (angle_run001 y x) (good_2 y x) (obsC (oLss_ok (by simpa using h3)) (obsC (oLss_ok (by simpa using h2)) (obs1 (oLss_ok (by rw [ka, kb]; simpa using h1))))) w
        rw [agA_eq, lowS_eq i3] at h
        exact h
      · rw [sign_pos (by omega : 0 ≤ y.v), flip_none]
        have h := cxR_calls _ (angle_run000 y x) (good_2 y x) (obsC (oLss_ok (by simpa using h3)) (obsC (oLss_ok (by simpa using h2)) (obs1 (oLss_ok (by rw [ka, kb]; simpa using h1))))) w
        rw [agA_eq] at h
        exact h
noncomputable def angleE : Ent := ent2 39 (fun y x => .int .i32 (angleW y x).v) (fun _ _ => goodC_w _) refAngle
end Go.Proofs.YtkfkoobdmnndcaaGreat.Xi
