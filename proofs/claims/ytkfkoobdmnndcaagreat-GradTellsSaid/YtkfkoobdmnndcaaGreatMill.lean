/- mill.Plain and mill.Work at numbers. -/
import Derived.Test.YtkfkoobdmnndcaaGreatAlu
namespace Go.Proofs.YtkfkoobdmnndcaaGreat
open Go.RowKit Go.Deep
set_option linter.unusedVariables false

set_option maxHeartbeats 400000 in
theorem plain_do (op : Int) (p : Value) (r : Int) (a b : Int) (w : World) (h : Calls Tryz.prog 146 #[.int .i64 op, .int .i32 a, .int .i32 b] w fun e w' => e = .returned (.tuple #[.int .i32 r, .bool true]) ∧ Chg w w' []) :
    Calls Tryz.prog 140 #[p, .int .i64 op, .int .i32 a, .int .i32 b] w fun e w' => e = .returned (.int .i32 r) ∧ Chg w w' [] := by
  go_enter Tryz.func140, Tryz.ntmps140
  go_wp2_with fail
  refine h.mono ?_
  rintro e w1 ⟨rfl, hc⟩
  have HC := hide hc
  clear hc h
  go_wp2
  go_ret
  exact ⟨rfl, HC.out⟩

theorem nil_do (p : Addr) (w : World) : (nilAhead 234 59 (.pointer (some p)) "Do").run Tryz.prog w = .ok (some false) w := by kernel_rfl
theorem meth_do (p : Addr) (w : World) : (method 234 59 (.pointer (some p)) "Do").run Tryz.prog w = .ok (140, .pointer (some p)) w := by kernel_rfl
/-- The numbers' worker over Plain at p. -/
def wk (p : Addr) : Value := .agg #[.iface 59 (.pointer (some p))]
set_option maxRecDepth 100000 in
set_option maxHeartbeats 1000000 in
theorem work_add (p : Addr) (a b : Int) (w : World) (ha : In32 a) (hb : In32 b) :
    Calls Tryz.prog 55 #[wk p, .int .i32 a, .int .i32 b] w fun e w' => e = .returned (.int .i32 (addI a b)) ∧ Chg w w' [] := by
  unfold wk
  have hn := nil_do p
  have hm := meth_do p
  go_enter Tryz.func55, Tryz.ntmps55
  go_wp2_with fail
  refine (plain_do 1 _ _ a b _ (do_add a b _ ha hb)).mono ?_
  rintro e w1 ⟨rfl, hc⟩
  have HC := hide (((Chg.refl w []).alloc _).trans hc (by simp))
  clear hc
  go_wp2
  go_ret
  exact ⟨rfl, HC.out⟩
set_option maxRecDepth 100000 in
set_option maxHeartbeats 1000000 in
theorem work_sub (p : Addr) (a b : Int) (w : World) (ha : In32 a) (hb : In32 b) :
    Calls Tryz.prog 76 #[wk p, .int .i32 a, .int .i32 b] w fun e w' => e = .returned (.int .i32 (subI a b)) ∧ Chg w w' [] := by
  unfold wk
  have hn := nil_do p
  have hm := meth_do p
  go_enter Tryz.func76, Tryz.ntmps76
  go_wp2_with fail
  refine (plain_do 2 _ _ a b _ (do_sub a b _ ha hb)).mono ?_
  rintro e w1 ⟨rfl, hc⟩
  have HC := hide (((Chg.refl w []).alloc _).trans hc (by simp))
  clear hc
  go_wp2
  go_ret
  exact ⟨rfl, HC.out⟩
set_option maxRecDepth 100000 in
set_option maxHeartbeats 1000000 in
theorem work_adds (p : Addr) (a b : Int) (w : World) (ha : In32 a) (hb : In32 b) :
    Calls Tryz.prog 95 #[wk p, .int .i32 a, .int .i32 b] w fun e w' => e = .returned (.int .i32 (addsI a b)) ∧ Chg w w' [] := by
  unfold wk
  have hn := nil_do p
  have hm := meth_do p
  go_enter Tryz.func95, Tryz.ntmps95
  go_wp2_with fail
  refine (plain_do 3 _ _ a b _ (do_adds a b _ ha hb)).mono ?_
  rintro e w1 ⟨rfl, hc⟩
  have HC := hide (((Chg.refl w []).alloc _).trans hc (by simp))
  clear hc
  go_wp2
  go_ret
  exact ⟨rfl, HC.out⟩
set_option maxRecDepth 100000 in
set_option maxHeartbeats 1000000 in
theorem work_subs (p : Addr) (a b : Int) (w : World) (ha : In32 a) (hb : In32 b) :
    Calls Tryz.prog 103 #[wk p, .int .i32 a, .int .i32 b] w fun e w' => e = .returned (.int .i32 (subsI a b)) ∧ Chg w w' [] := by
  unfold wk
  have hn := nil_do p
  have hm := meth_do p
  go_enter Tryz.func103, Tryz.ntmps103
  go_wp2_with fail
  refine (plain_do 4 _ _ a b _ (do_subs a b _ ha hb)).mono ?_
  rintro e w1 ⟨rfl, hc⟩
  have HC := hide (((Chg.refl w []).alloc _).trans hc (by simp))
  clear hc
  go_wp2
  go_ret
  exact ⟨rfl, HC.out⟩
set_option maxRecDepth 100000 in
set_option maxHeartbeats 1000000 in
theorem work_and (p : Addr) (a b : Int) (w : World) (ha : In32 a) (hb : In32 b) :
    Calls Tryz.prog 99 #[wk p, .int .i32 a, .int .i32 b] w fun e w' => e = .returned (.int .i32 (andI a b)) ∧ Chg w w' [] := by
  unfold wk
  have hn := nil_do p
  have hm := meth_do p
  go_enter Tryz.func99, Tryz.ntmps99
  go_wp2_with fail
  refine (plain_do 5 _ _ a b _ (do_and a b _ ha hb)).mono ?_
  rintro e w1 ⟨rfl, hc⟩
  have HC := hide (((Chg.refl w []).alloc _).trans hc (by simp))
  clear hc
  go_wp2
  go_ret
  exact ⟨rfl, HC.out⟩
set_option maxRecDepth 100000 in
set_option maxHeartbeats 1000000 in
theorem work_or (p : Addr) (a b : Int) (w : World) (ha : In32 a) (hb : In32 b) :
    Calls Tryz.prog 97 #[wk p, .int .i32 a, .int .i32 b] w fun e w' => e = .returned (.int .i32 (orI a b)) ∧ Chg w w' [] := by
  unfold wk
  have hn := nil_do p
  have hm := meth_do p
  go_enter Tryz.func97, Tryz.ntmps97
  go_wp2_with fail
  refine (plain_do 6 _ _ a b _ (do_or a b _ ha hb)).mono ?_
  rintro e w1 ⟨rfl, hc⟩
  have HC := hide (((Chg.refl w []).alloc _).trans hc (by simp))
  clear hc
  go_wp2
  go_ret
  exact ⟨rfl, HC.out⟩
set_option maxRecDepth 100000 in
set_option maxHeartbeats 1000000 in
theorem work_xor (p : Addr) (a b : Int) (w : World) (ha : In32 a) (hb : In32 b) :
    Calls Tryz.prog 119 #[wk p, .int .i32 a, .int .i32 b] w fun e w' => e = .returned (.int .i32 (xorI a b)) ∧ Chg w w' [] := by
  unfold wk
  have hn := nil_do p
  have hm := meth_do p
  go_enter Tryz.func119, Tryz.ntmps119
  go_wp2_with fail
  refine (plain_do 7 _ _ a b _ (do_xor a b _ ha hb)).mono ?_
  rintro e w1 ⟨rfl, hc⟩
  have HC := hide (((Chg.refl w []).alloc _).trans hc (by simp))
  clear hc
  go_wp2
  go_ret
  exact ⟨rfl, HC.out⟩
set_option maxRecDepth 100000 in
set_option maxHeartbeats 1000000 in
theorem work_bic (p : Addr) (a b : Int) (w : World) (ha : In32 a) (hb : In32 b) :
    Calls Tryz.prog 120 #[wk p, .int .i32 a, .int .i32 b] w fun e w' => e = .returned (.int .i32 (bicI a b)) ∧ Chg w w' [] := by
  unfold wk
  have hn := nil_do p
  have hm := meth_do p
  go_enter Tryz.func120, Tryz.ntmps120
  go_wp2_with fail
  refine (plain_do 8 _ _ a b _ (do_bic a b _ ha hb)).mono ?_
  rintro e w1 ⟨rfl, hc⟩
  have HC := hide (((Chg.refl w []).alloc _).trans hc (by simp))
  clear hc
  go_wp2
  go_ret
  exact ⟨rfl, HC.out⟩
set_option maxRecDepth 100000 in
set_option maxHeartbeats 1000000 in
theorem work_shl (p : Addr) (a b : Int) (w : World) (ha : In32 a) (hb : In32 b) :
    Calls Tryz.prog 102 #[wk p, .int .i32 a, .int .i32 b] w fun e w' => e = .returned (.int .i32 (shlI a b)) ∧ Chg w w' [] := by
  unfold wk
  have hn := nil_do p
  have hm := meth_do p
  go_enter Tryz.func102, Tryz.ntmps102
  go_wp2_with fail
  refine (plain_do 9 _ _ a b _ (do_shl a b _ ha hb)).mono ?_
  rintro e w1 ⟨rfl, hc⟩
  have HC := hide (((Chg.refl w []).alloc _).trans hc (by simp))
  clear hc
  go_wp2
  go_ret
  exact ⟨rfl, HC.out⟩
set_option maxRecDepth 100000 in
set_option maxHeartbeats 1000000 in
theorem work_shr (p : Addr) (a b : Int) (w : World) (ha : In32 a) (hb : In32 b) :
    Calls Tryz.prog 101 #[wk p, .int .i32 a, .int .i32 b] w fun e w' => e = .returned (.int .i32 (shrI a b)) ∧ Chg w w' [] := by
  unfold wk
  have hn := nil_do p
  have hm := meth_do p
  go_enter Tryz.func101, Tryz.ntmps101
  go_wp2_with fail
  refine (plain_do 10 _ _ a b _ (do_shr a b _ ha hb)).mono ?_
  rintro e w1 ⟨rfl, hc⟩
  have HC := hide (((Chg.refl w []).alloc _).trans hc (by simp))
  clear hc
  go_wp2
  go_ret
  exact ⟨rfl, HC.out⟩
set_option maxRecDepth 100000 in
set_option maxHeartbeats 1000000 in
theorem work_sar (p : Addr) (a b : Int) (w : World) (ha : In32 a) (hb : In32 b) :
    Calls Tryz.prog 113 #[wk p, .int .i32 a, .int .i32 b] w fun e w' => e = .returned (.int .i32 (sarI a b)) ∧ Chg w w' [] := by
  unfold wk
  have hn := nil_do p
  have hm := meth_do p
  go_enter Tryz.func113, Tryz.ntmps113
  go_wp2_with fail
  refine (plain_do 11 _ _ a b _ (do_sar a b _ ha hb)).mono ?_
  rintro e w1 ⟨rfl, hc⟩
  have HC := hide (((Chg.refl w []).alloc _).trans hc (by simp))
  clear hc
  go_wp2
  go_ret
  exact ⟨rfl, HC.out⟩
set_option maxRecDepth 100000 in
set_option maxHeartbeats 1000000 in
theorem work_slt (p : Addr) (a b : Int) (w : World) (ha : In32 a) (hb : In32 b) :
    Calls Tryz.prog 77 #[wk p, .int .i32 a, .int .i32 b] w fun e w' => e = .returned (.int .i32 (ltI a b)) ∧ Chg w w' [] := by
  unfold wk
  have hn := nil_do p
  have hm := meth_do p
  go_enter Tryz.func77, Tryz.ntmps77
  go_wp2_with fail
  refine (plain_do 13 _ _ a b _ (do_slt a b _ ha hb)).mono ?_
  rintro e w1 ⟨rfl, hc⟩
  have HC := hide (((Chg.refl w []).alloc _).trans hc (by simp))
  clear hc
  go_wp2
  go_ret
  exact ⟨rfl, HC.out⟩
set_option maxRecDepth 100000 in
set_option maxHeartbeats 1000000 in
theorem work_sltu (p : Addr) (a b : Int) (w : World) (ha : In32 a) (hb : In32 b) :
    Calls Tryz.prog 98 #[wk p, .int .i32 a, .int .i32 b] w fun e w' => e = .returned (.int .i32 (ltuI a b)) ∧ Chg w w' [] := by
  unfold wk
  have hn := nil_do p
  have hm := meth_do p
  go_enter Tryz.func98, Tryz.ntmps98
  go_wp2_with fail
  refine (plain_do 14 _ _ a b _ (do_sltu a b _ ha hb)).mono ?_
  rintro e w1 ⟨rfl, hc⟩
  have HC := hide (((Chg.refl w []).alloc _).trans hc (by simp))
  clear hc
  go_wp2
  go_ret
  exact ⟨rfl, HC.out⟩
set_option maxRecDepth 100000 in
set_option maxHeartbeats 1000000 in
theorem work_mul (p : Addr) (a b : Int) (w : World) (ha : In32 a) (hb : In32 b) :
    Calls Tryz.prog 56 #[wk p, .int .i32 a, .int .i32 b] w fun e w' => e = .returned (.int .i32 (mulI a b)) ∧ Chg w w' [] := by
  unfold wk
  have hn := nil_do p
  have hm := meth_do p
  go_enter Tryz.func56, Tryz.ntmps56
  go_wp2_with fail
  refine (plain_do 18 _ _ a b _ (do_mul a b _ ha hb)).mono ?_
  rintro e w1 ⟨rfl, hc⟩
  have HC := hide (((Chg.refl w []).alloc _).trans hc (by simp))
  clear hc
  go_wp2
  go_ret
  exact ⟨rfl, HC.out⟩
set_option maxRecDepth 100000 in
set_option maxHeartbeats 1000000 in
theorem work_mulq (p : Addr) (a b : Int) (w : World) (ha : In32 a) (hb : In32 b) :
    Calls Tryz.prog 70 #[wk p, .int .i32 a, .int .i32 b] w fun e w' => e = .returned (.int .i32 (mulqI a b)) ∧ Chg w w' [] := by
  unfold wk
  have hn := nil_do p
  have hm := meth_do p
  go_enter Tryz.func70, Tryz.ntmps70
  go_wp2_with fail
  refine (plain_do 20 _ _ a b _ (do_mulq a b _ ha hb)).mono ?_
  rintro e w1 ⟨rfl, hc⟩
  have HC := hide (((Chg.refl w []).alloc _).trans hc (by simp))
  clear hc
  go_wp2
  go_ret
  exact ⟨rfl, HC.out⟩
set_option maxRecDepth 100000 in
set_option maxHeartbeats 1000000 in
theorem work_clz (p : Addr) (a : Int) (w : World) (ha : In32 a) :
    Calls Tryz.prog 100 #[wk p, .int .i32 a] w fun e w' => e = .returned (.int .i32 (clzI a)) ∧ Chg w w' [] := by
  unfold wk
  have hn := nil_do p
  have hm := meth_do p
  go_enter Tryz.func100, Tryz.ntmps100
  go_wp2_with fail
  refine (plain_do 24 _ _ a a _ (do_clz a a _ ha ha)).mono ?_
  rintro e w1 ⟨rfl, hc⟩
  have HC := hide (((Chg.refl w []).alloc _).trans hc (by simp))
  clear hc
  go_wp2
  go_ret
  exact ⟨rfl, HC.out⟩
set_option maxRecDepth 100000 in
set_option maxHeartbeats 1000000 in
theorem work_neg (p : Addr) (a : Int) (w : World) (ha : In32 a) :
    Calls Tryz.prog 93 #[wk p, .int .i32 a] w fun e w' => e = .returned (.int .i32 (negI a)) ∧ Chg w w' [] := by
  unfold wk
  have hn := nil_do p
  have hm := meth_do p
  go_enter Tryz.func93, Tryz.ntmps93
  go_wp2_with fail
  refine (plain_do 25 _ _ a a _ (do_neg a a _ ha ha)).mono ?_
  rintro e w1 ⟨rfl, hc⟩
  have HC := hide (((Chg.refl w []).alloc _).trans hc (by simp))
  clear hc
  go_wp2
  go_ret
  exact ⟨rfl, HC.out⟩
set_option maxRecDepth 100000 in
set_option maxHeartbeats 1000000 in
theorem work_abs (p : Addr) (a : Int) (w : World) (ha : In32 a) :
    Calls Tryz.prog 78 #[wk p, .int .i32 a] w fun e w' => e = .returned (.int .i32 (absI a)) ∧ Chg w w' [] := by
  unfold wk
  have hn := nil_do p
  have hm := meth_do p
  go_enter Tryz.func78, Tryz.ntmps78
  go_wp2_with fail
  refine (plain_do 26 _ _ a a _ (do_abs a a _ ha ha)).mono ?_
  rintro e w1 ⟨rfl, hc⟩
  have HC := hide (((Chg.refl w []).alloc _).trans hc (by simp))
  clear hc
  go_wp2
  go_ret
  exact ⟨rfl, HC.out⟩
set_option maxRecDepth 100000 in
set_option maxHeartbeats 1000000 in
theorem work_sign (p : Addr) (a : Int) (w : World) (ha : In32 a) :
    Calls Tryz.prog 111 #[wk p, .int .i32 a] w fun e w' => e = .returned (.int .i32 (signI a)) ∧ Chg w w' [] := by
  unfold wk
  have hn := nil_do p
  have hm := meth_do p
  go_enter Tryz.func111, Tryz.ntmps111
  go_wp2_with fail
  refine (plain_do 28 _ _ a a _ (do_sign a a _ ha ha)).mono ?_
  rintro e w1 ⟨rfl, hc⟩
  have HC := hide (((Chg.refl w []).alloc _).trans hc (by simp))
  clear hc
  go_wp2
  go_ret
  exact ⟨rfl, HC.out⟩

end Go.Proofs.YtkfkoobdmnndcaaGreat
