/- mill.Plain and mill.Work at numbers. -/
import Derived.Test.YtbmfcedndbgpoaaAlu
namespace Go.Proofs.Ytbmfcedndbgpoaa
open Go.RowKit Go.Deep
set_option linter.unusedVariables false

set_option maxHeartbeats 400000 in
theorem plain_do (op : Int) (p : Value) (r : Int) (a b : Int) (w : World) (h : Calls Try.prog 102 #[.int .i64 op, .int .i32 a, .int .i32 b] w fun e w' => e = .returned (.tuple #[.int .i32 r, .bool true]) ∧ Chg w w' []) :
    Calls Try.prog 96 #[p, .int .i64 op, .int .i32 a, .int .i32 b] w fun e w' => e = .returned (.int .i32 r) ∧ Chg w w' [] := by
  go_enter Try.func96, Try.ntmps96
  go_wp2_with fail
  refine h.mono ?_
  rintro e w1 ⟨rfl, hc⟩
  have HC := hide hc
  clear hc h
  go_wp2
  go_ret
  exact ⟨rfl, HC.out⟩

theorem nil_do (p : Addr) (w : World) : (nilAhead 222 52 (.pointer (some p)) "Do").run Try.prog w = .ok (some false) w := by kernel_rfl
theorem meth_do (p : Addr) (w : World) : (method 222 52 (.pointer (some p)) "Do").run Try.prog w = .ok (96, .pointer (some p)) w := by kernel_rfl
/-- The numbers' worker over Plain at p. -/
def wk (p : Addr) : Value := .agg #[.iface 52 (.pointer (some p))]
set_option maxRecDepth 100000 in
set_option maxHeartbeats 1000000 in
theorem work_add (p : Addr) (a b : Int) (w : World) (ha : In32 a) (hb : In32 b) :
    Calls Try.prog 32 #[wk p, .int .i32 a, .int .i32 b] w fun e w' => e = .returned (.int .i32 (addI a b)) ∧ Chg w w' [] := by
  unfold wk
  have hn := nil_do p
  have hm := meth_do p
  go_enter Try.func32, Try.ntmps32
  go_wp2_with fail
  refine (plain_do 1 _ _ a b _ (do_add a b _ ha hb)).mono ?_
  rintro e w1 ⟨rfl, hc⟩
  have HC := hide (((Chg.refl w []).alloc _).trans hc (by simp))
  clear hc
  go_wp2
  go_ret
  exact ⟨rfl, HC.out⟩
set_option maxRecDepth 100000 in
set_option maxHeartbeats 1000000 in
theorem work_sub (p : Addr) (a b : Int) (w : World) (ha : In32 a) (hb : In32 b) :
    Calls Try.prog 47 #[wk p, .int .i32 a, .int .i32 b] w fun e w' => e = .returned (.int .i32 (subI a b)) ∧ Chg w w' [] := by
  unfold wk
  have hn := nil_do p
  have hm := meth_do p
  go_enter Try.func47, Try.ntmps47
  go_wp2_with fail
  refine (plain_do 2 _ _ a b _ (do_sub a b _ ha hb)).mono ?_
  rintro e w1 ⟨rfl, hc⟩
  have HC := hide (((Chg.refl w []).alloc _).trans hc (by simp))
  clear hc
  go_wp2
  go_ret
  exact ⟨rfl, HC.out⟩
set_option maxRecDepth 100000 in
set_option maxHeartbeats 1000000 in
theorem work_adds (p : Addr) (a b : Int) (w : World) (ha : In32 a) (hb : In32 b) :
    Calls Try.prog 43 #[wk p, .int .i32 a, .int .i32 b] w fun e w' => e = .returned (.int .i32 (addsI a b)) ∧ Chg w w' [] := by
  unfold wk
  have hn := nil_do p
  have hm := meth_do p
  go_enter Try.func43, Try.ntmps43
  go_wp2_with fail
  refine (plain_do 3 _ _ a b _ (do_adds a b _ ha hb)).mono ?_
  rintro e w1 ⟨rfl, hc⟩
  have HC := hide (((Chg.refl w []).alloc _).trans hc (by simp))
  clear hc
  go_wp2
  go_ret
  exact ⟨rfl, HC.out⟩
set_option maxRecDepth 100000 in
set_option maxHeartbeats 1000000 in
theorem work_subs (p : Addr) (a b : Int) (w : World) (ha : In32 a) (hb : In32 b) :
    Calls Try.prog 64 #[wk p, .int .i32 a, .int .i32 b] w fun e w' => e = .returned (.int .i32 (subsI a b)) ∧ Chg w w' [] := by
  unfold wk
  have hn := nil_do p
  have hm := meth_do p
  go_enter Try.func64, Try.ntmps64
  go_wp2_with fail
  refine (plain_do 4 _ _ a b _ (do_subs a b _ ha hb)).mono ?_
  rintro e w1 ⟨rfl, hc⟩
  have HC := hide (((Chg.refl w []).alloc _).trans hc (by simp))
  clear hc
  go_wp2
  go_ret
  exact ⟨rfl, HC.out⟩
set_option maxRecDepth 100000 in
set_option maxHeartbeats 1000000 in
theorem work_and (p : Addr) (a b : Int) (w : World) (ha : In32 a) (hb : In32 b) :
    Calls Try.prog 60 #[wk p, .int .i32 a, .int .i32 b] w fun e w' => e = .returned (.int .i32 (andI a b)) ∧ Chg w w' [] := by
  unfold wk
  have hn := nil_do p
  have hm := meth_do p
  go_enter Try.func60, Try.ntmps60
  go_wp2_with fail
  refine (plain_do 5 _ _ a b _ (do_and a b _ ha hb)).mono ?_
  rintro e w1 ⟨rfl, hc⟩
  have HC := hide (((Chg.refl w []).alloc _).trans hc (by simp))
  clear hc
  go_wp2
  go_ret
  exact ⟨rfl, HC.out⟩
set_option maxRecDepth 100000 in
set_option maxHeartbeats 1000000 in
theorem work_or (p : Addr) (a b : Int) (w : World) (ha : In32 a) (hb : In32 b) :
    Calls Try.prog 58 #[wk p, .int .i32 a, .int .i32 b] w fun e w' => e = .returned (.int .i32 (orI a b)) ∧ Chg w w' [] := by
  unfold wk
  have hn := nil_do p
  have hm := meth_do p
  go_enter Try.func58, Try.ntmps58
  go_wp2_with fail
  refine (plain_do 6 _ _ a b _ (do_or a b _ ha hb)).mono ?_
  rintro e w1 ⟨rfl, hc⟩
  have HC := hide (((Chg.refl w []).alloc _).trans hc (by simp))
  clear hc
  go_wp2
  go_ret
  exact ⟨rfl, HC.out⟩
set_option maxRecDepth 100000 in
set_option maxHeartbeats 1000000 in
theorem work_xor (p : Addr) (a b : Int) (w : World) (ha : In32 a) (hb : In32 b) :
    Calls Try.prog 76 #[wk p, .int .i32 a, .int .i32 b] w fun e w' => e = .returned (.int .i32 (xorI a b)) ∧ Chg w w' [] := by
  unfold wk
  have hn := nil_do p
  have hm := meth_do p
  go_enter Try.func76, Try.ntmps76
  go_wp2_with fail
  refine (plain_do 7 _ _ a b _ (do_xor a b _ ha hb)).mono ?_
  rintro e w1 ⟨rfl, hc⟩
  have HC := hide (((Chg.refl w []).alloc _).trans hc (by simp))
  clear hc
  go_wp2
  go_ret
  exact ⟨rfl, HC.out⟩
set_option maxRecDepth 100000 in
set_option maxHeartbeats 1000000 in
theorem work_bic (p : Addr) (a b : Int) (w : World) (ha : In32 a) (hb : In32 b) :
    Calls Try.prog 77 #[wk p, .int .i32 a, .int .i32 b] w fun e w' => e = .returned (.int .i32 (bicI a b)) ∧ Chg w w' [] := by
  unfold wk
  have hn := nil_do p
  have hm := meth_do p
  go_enter Try.func77, Try.ntmps77
  go_wp2_with fail
  refine (plain_do 8 _ _ a b _ (do_bic a b _ ha hb)).mono ?_
  rintro e w1 ⟨rfl, hc⟩
  have HC := hide (((Chg.refl w []).alloc _).trans hc (by simp))
  clear hc
  go_wp2
  go_ret
  exact ⟨rfl, HC.out⟩
set_option maxRecDepth 100000 in
set_option maxHeartbeats 1000000 in
theorem work_shl (p : Addr) (a b : Int) (w : World) (ha : In32 a) (hb : In32 b) :
    Calls Try.prog 63 #[wk p, .int .i32 a, .int .i32 b] w fun e w' => e = .returned (.int .i32 (shlI a b)) ∧ Chg w w' [] := by
  unfold wk
  have hn := nil_do p
  have hm := meth_do p
  go_enter Try.func63, Try.ntmps63
  go_wp2_with fail
  refine (plain_do 9 _ _ a b _ (do_shl a b _ ha hb)).mono ?_
  rintro e w1 ⟨rfl, hc⟩
  have HC := hide (((Chg.refl w []).alloc _).trans hc (by simp))
  clear hc
  go_wp2
  go_ret
  exact ⟨rfl, HC.out⟩
set_option maxRecDepth 100000 in
set_option maxHeartbeats 1000000 in
theorem work_shr (p : Addr) (a b : Int) (w : World) (ha : In32 a) (hb : In32 b) :
    Calls Try.prog 62 #[wk p, .int .i32 a, .int .i32 b] w fun e w' => e = .returned (.int .i32 (shrI a b)) ∧ Chg w w' [] := by
  unfold wk
  have hn := nil_do p
  have hm := meth_do p
  go_enter Try.func62, Try.ntmps62
  go_wp2_with fail
  refine (plain_do 10 _ _ a b _ (do_shr a b _ ha hb)).mono ?_
  rintro e w1 ⟨rfl, hc⟩
  have HC := hide (((Chg.refl w []).alloc _).trans hc (by simp))
  clear hc
  go_wp2
  go_ret
  exact ⟨rfl, HC.out⟩
set_option maxRecDepth 100000 in
set_option maxHeartbeats 1000000 in
theorem work_sar (p : Addr) (a b : Int) (w : World) (ha : In32 a) (hb : In32 b) :
    Calls Try.prog 66 #[wk p, .int .i32 a, .int .i32 b] w fun e w' => e = .returned (.int .i32 (sarI a b)) ∧ Chg w w' [] := by
  unfold wk
  have hn := nil_do p
  have hm := meth_do p
  go_enter Try.func66, Try.ntmps66
  go_wp2_with fail
  refine (plain_do 11 _ _ a b _ (do_sar a b _ ha hb)).mono ?_
  rintro e w1 ⟨rfl, hc⟩
  have HC := hide (((Chg.refl w []).alloc _).trans hc (by simp))
  clear hc
  go_wp2
  go_ret
  exact ⟨rfl, HC.out⟩
set_option maxRecDepth 100000 in
set_option maxHeartbeats 1000000 in
theorem work_slt (p : Addr) (a b : Int) (w : World) (ha : In32 a) (hb : In32 b) :
    Calls Try.prog 48 #[wk p, .int .i32 a, .int .i32 b] w fun e w' => e = .returned (.int .i32 (ltI a b)) ∧ Chg w w' [] := by
  unfold wk
  have hn := nil_do p
  have hm := meth_do p
  go_enter Try.func48, Try.ntmps48
  go_wp2_with fail
  refine (plain_do 13 _ _ a b _ (do_slt a b _ ha hb)).mono ?_
  rintro e w1 ⟨rfl, hc⟩
  have HC := hide (((Chg.refl w []).alloc _).trans hc (by simp))
  clear hc
  go_wp2
  go_ret
  exact ⟨rfl, HC.out⟩
set_option maxRecDepth 100000 in
set_option maxHeartbeats 1000000 in
theorem work_sltu (p : Addr) (a b : Int) (w : World) (ha : In32 a) (hb : In32 b) :
    Calls Try.prog 59 #[wk p, .int .i32 a, .int .i32 b] w fun e w' => e = .returned (.int .i32 (ltuI a b)) ∧ Chg w w' [] := by
  unfold wk
  have hn := nil_do p
  have hm := meth_do p
  go_enter Try.func59, Try.ntmps59
  go_wp2_with fail
  refine (plain_do 14 _ _ a b _ (do_sltu a b _ ha hb)).mono ?_
  rintro e w1 ⟨rfl, hc⟩
  have HC := hide (((Chg.refl w []).alloc _).trans hc (by simp))
  clear hc
  go_wp2
  go_ret
  exact ⟨rfl, HC.out⟩
set_option maxRecDepth 100000 in
set_option maxHeartbeats 1000000 in
theorem work_mul (p : Addr) (a b : Int) (w : World) (ha : In32 a) (hb : In32 b) :
    Calls Try.prog 33 #[wk p, .int .i32 a, .int .i32 b] w fun e w' => e = .returned (.int .i32 (mulI a b)) ∧ Chg w w' [] := by
  unfold wk
  have hn := nil_do p
  have hm := meth_do p
  go_enter Try.func33, Try.ntmps33
  go_wp2_with fail
  refine (plain_do 18 _ _ a b _ (do_mul a b _ ha hb)).mono ?_
  rintro e w1 ⟨rfl, hc⟩
  have HC := hide (((Chg.refl w []).alloc _).trans hc (by simp))
  clear hc
  go_wp2
  go_ret
  exact ⟨rfl, HC.out⟩
set_option maxRecDepth 100000 in
set_option maxHeartbeats 1000000 in
theorem work_mulq (p : Addr) (a b : Int) (w : World) (ha : In32 a) (hb : In32 b) :
    Calls Try.prog 39 #[wk p, .int .i32 a, .int .i32 b] w fun e w' => e = .returned (.int .i32 (mulqI a b)) ∧ Chg w w' [] := by
  unfold wk
  have hn := nil_do p
  have hm := meth_do p
  go_enter Try.func39, Try.ntmps39
  go_wp2_with fail
  refine (plain_do 20 _ _ a b _ (do_mulq a b _ ha hb)).mono ?_
  rintro e w1 ⟨rfl, hc⟩
  have HC := hide (((Chg.refl w []).alloc _).trans hc (by simp))
  clear hc
  go_wp2
  go_ret
  exact ⟨rfl, HC.out⟩
set_option maxRecDepth 100000 in
set_option maxHeartbeats 1000000 in
theorem work_clz (p : Addr) (a : Int) (w : World) (ha : In32 a) :
    Calls Try.prog 61 #[wk p, .int .i32 a] w fun e w' => e = .returned (.int .i32 (clzI a)) ∧ Chg w w' [] := by
  unfold wk
  have hn := nil_do p
  have hm := meth_do p
  go_enter Try.func61, Try.ntmps61
  go_wp2_with fail
  refine (plain_do 24 _ _ a a _ (do_clz a a _ ha ha)).mono ?_
  rintro e w1 ⟨rfl, hc⟩
  have HC := hide (((Chg.refl w []).alloc _).trans hc (by simp))
  clear hc
  go_wp2
  go_ret
  exact ⟨rfl, HC.out⟩
set_option maxRecDepth 100000 in
set_option maxHeartbeats 1000000 in
theorem work_neg (p : Addr) (a : Int) (w : World) (ha : In32 a) :
    Calls Try.prog 57 #[wk p, .int .i32 a] w fun e w' => e = .returned (.int .i32 (negI a)) ∧ Chg w w' [] := by
  unfold wk
  have hn := nil_do p
  have hm := meth_do p
  go_enter Try.func57, Try.ntmps57
  go_wp2_with fail
  refine (plain_do 25 _ _ a a _ (do_neg a a _ ha ha)).mono ?_
  rintro e w1 ⟨rfl, hc⟩
  have HC := hide (((Chg.refl w []).alloc _).trans hc (by simp))
  clear hc
  go_wp2
  go_ret
  exact ⟨rfl, HC.out⟩
set_option maxRecDepth 100000 in
set_option maxHeartbeats 1000000 in
theorem work_abs (p : Addr) (a : Int) (w : World) (ha : In32 a) :
    Calls Try.prog 49 #[wk p, .int .i32 a] w fun e w' => e = .returned (.int .i32 (absI a)) ∧ Chg w w' [] := by
  unfold wk
  have hn := nil_do p
  have hm := meth_do p
  go_enter Try.func49, Try.ntmps49
  go_wp2_with fail
  refine (plain_do 26 _ _ a a _ (do_abs a a _ ha ha)).mono ?_
  rintro e w1 ⟨rfl, hc⟩
  have HC := hide (((Chg.refl w []).alloc _).trans hc (by simp))
  clear hc
  go_wp2
  go_ret
  exact ⟨rfl, HC.out⟩
set_option maxRecDepth 100000 in
set_option maxHeartbeats 1000000 in
theorem work_sign (p : Addr) (a : Int) (w : World) (ha : In32 a) :
    Calls Try.prog 72 #[wk p, .int .i32 a] w fun e w' => e = .returned (.int .i32 (signI a)) ∧ Chg w w' [] := by
  unfold wk
  have hn := nil_do p
  have hm := meth_do p
  go_enter Try.func72, Try.ntmps72
  go_wp2_with fail
  refine (plain_do 28 _ _ a a _ (do_sign a a _ ha ha)).mono ?_
  rintro e w1 ⟨rfl, hc⟩
  have HC := hide (((Chg.refl w []).alloc _).trans hc (by simp))
  clear hc
  go_wp2
  go_ret
  exact ⟨rfl, HC.out⟩

end Go.Proofs.Ytbmfcedndbgpoaa
